/-
  The law FnExactPrintData answers true at every argument.
-/
import Derived.Test.YtjlglimikbfgmaaDoorRows
import Derived.Test.YtjlglimikbfgmaaDoorTie
import Derived.Test.YtjlglimikbfgmaaDoorCards
import Derived.Test.YtjlglimikbfgmaaDoorKPrintData1
import Derived.Test.YtjlglimikbfgmaaDoorKPrintData2
import Derived.Test.YtjlglimikbfgmaaDoorKPrintData3
import Derived.Test.YtjlglimikbfgmaaDoorKPrintData4
import Derived.Test.YtjlglimikbfgmaaDoorKPrintData7
import Derived.Test.YtjlglimikbfgmaaDoorKPrintData10
import Derived.Shelf.Strings.Builder1
import Derived.Shelf.Strings.Builder2
import Derived.Shelf.Strings.OnBuilder
import Derived.Shelf.Small.Strs
import Derived.Shelf.Strings.BuilderF
import Derived.Shelf.Strings.BuilderK
import Derived.Shelf.Strconv.Itoa0
import Derived.Shelf.Strconv.Itoa1
import Derived.Shelf.LaysM
import Derived.Shelf.Strconv.Itoa2
import Derived.Shelf.Strconv.Itoa3
import Derived.Shelf.Strings.Search1
import Derived.Shelf.Strings.Prefix
import Derived.Shelf.Slices.Turned
import Derived.Ground.Names2Prog
import Derived.Shelf.Slices.Clone
import Derived.Test.YtjlglimikbfgmaaDoorProg
import Derived.Deep.RegionHeld3
import Derived.Lib.AppendStr
import Derived.Laws.IdiomStrings
import Derived.WalkKit
import Derived.LaidMore
import Derived.MakeChecks
import Derived.Stop.Joined
import Derived.ChangeVars
import Derived.SevenTiedAt
import Derived.ProofKit
import Derived.OpenShut
import Derived.ShutString
import Derived.ChangeOld
import Derived.Below
import Derived.SizedLaws
import Derived.Lib.SmallJoins
namespace Go.Proofs
open Go.Shelf
def Tryd.lays169_ren : Go.Shelf.Ren := ⟨fun | 169 => 29 | n => n, fun | 70 => 59 | 9 => 9 | 0 => 0 | 72 => 61 | 37 => 51 | 127 => 112 | 3 => 3 | 5 => 5 | n => n, fun | n => n⟩
theorem Tryd.lays169 : Go.Proofs.Lays.n169 Tryd.prog Tryd.lays169_ren := {
  mixed := by kernel_rfl
  f169 := Tryd.func29.trans (congrArg some (by kernel_rfl))
  t0 := Tryd.underlying0
  a0 := Tryd.isAgg0
  z0 := Tryd.sizeOf0
  v0 := Tryd.zeroValue0
  t3 := Tryd.underlying3
  a3 := Tryd.isAgg3
  z3 := Tryd.sizeOf3
  v3 := Tryd.zeroValue3
  t9 := Tryd.underlying9
  a9 := Tryd.isAgg9
  z9 := Tryd.sizeOf9
  v9 := Tryd.zeroValue9
  t37 := Tryd.underlying51
  a37 := Tryd.isAgg51
  z37 := Tryd.sizeOf51
  v37 := Tryd.zeroValue51
  t70 := Tryd.underlying59
  a70 := Tryd.isAgg59
  z70 := Tryd.sizeOf59
  v70 := Tryd.zeroValue59
  t72 := Tryd.underlying61
  a72 := Tryd.isAgg61
  z72 := Tryd.sizeOf61
  v72 := Tryd.zeroValue61
  t127 := Tryd.underlying112
  a127 := Tryd.isAgg112
  z127 := Tryd.sizeOf112
  v127 := Tryd.zeroValue112 }
theorem Tryd.Builder_Extra_169 : Builder.Extra Tryd.prog Tryd.lays169_ren := {
  sizeBuilder := by kernel_rfl
  liesBuilder := by kernel_rfl
  t5 := Tryd.underlying5
  a5 := Tryd.isAgg5
  z5 := Tryd.sizeOf5
  v5 := Tryd.zeroValue5
  infoByte := by kernel_rfl
  cellsByte := by kernel_rfl
  sizeByte := by kernel_rfl
  neB5 := by decide }
open Go.RowKit in
theorem Tryd.Builder_String_any (B b : Nat) (l : List UInt8) (w : World) (h : Lib.IsBuilder 61 5 B b (Lib.byteCells l) w) (hBw : B ≤ w.heap.size) :
    Calls Tryd.prog 29 #[.pointer (some ⟨b, 0, none⟩)] w fun e w' => e = .returned (.string ⟨l.toArray⟩) ∧ Below B w w' := Any.Builder_String_any Tryd.lays169 Tryd.Builder_Extra_169 B b l w h hBw
def Tryd.lays156_ren : Go.Shelf.Ren := ⟨fun | 156 => 40 | 165 => 69 | 166 => 39 | 169 => 29 | 240 => 60 | 241 => 105 | 276 => 97 | 277 => 123 | n => n, fun | 31 => 33 | 9 => 9 | 3 => 3 | 4 => 4 | 0 => 0 | 20 => 20 | 72 => 61 | 76 => 82 | 70 => 59 | 37 => 51 | 75 => 64 | 127 => 112 | 164 => 137 | 5 => 5 | 80 => 67 | n => n, fun | n => n⟩
theorem Tryd.lays156 : Go.Proofs.Lays.n156 Tryd.prog Tryd.lays156_ren := {
  mixed := by kernel_rfl
  f156 := Tryd.func40.trans (congrArg some (by kernel_rfl))
  f165 := Tryd.func69.trans (congrArg some (by kernel_rfl))
  f166 := Tryd.func39.trans (congrArg some (by kernel_rfl))
  f169 := Tryd.func29.trans (congrArg some (by kernel_rfl))
  f240 := Tryd.func60.trans (congrArg some (by kernel_rfl))
  f241 := Tryd.func105.trans (congrArg some (by kernel_rfl))
  f276 := Tryd.func97.trans (congrArg some (by kernel_rfl))
  f277 := Tryd.func123.trans (congrArg some (by kernel_rfl))
  t0 := Tryd.underlying0
  a0 := Tryd.isAgg0
  z0 := Tryd.sizeOf0
  v0 := Tryd.zeroValue0
  t3 := Tryd.underlying3
  a3 := Tryd.isAgg3
  z3 := Tryd.sizeOf3
  v3 := Tryd.zeroValue3
  t4 := Tryd.underlying4
  a4 := Tryd.isAgg4
  z4 := Tryd.sizeOf4
  v4 := Tryd.zeroValue4
  t9 := Tryd.underlying9
  a9 := Tryd.isAgg9
  z9 := Tryd.sizeOf9
  v9 := Tryd.zeroValue9
  t20 := Tryd.underlying20
  a20 := Tryd.isAgg20
  z20 := Tryd.sizeOf20
  v20 := Tryd.zeroValue20
  t31 := Tryd.underlying33
  a31 := Tryd.isAgg33
  z31 := Tryd.sizeOf33
  v31 := Tryd.zeroValue33
  t37 := Tryd.underlying51
  a37 := Tryd.isAgg51
  z37 := Tryd.sizeOf51
  v37 := Tryd.zeroValue51
  t70 := Tryd.underlying59
  a70 := Tryd.isAgg59
  z70 := Tryd.sizeOf59
  v70 := Tryd.zeroValue59
  t72 := Tryd.underlying61
  a72 := Tryd.isAgg61
  z72 := Tryd.sizeOf61
  v72 := Tryd.zeroValue61
  t75 := Tryd.underlying64
  a75 := Tryd.isAgg64
  z75 := Tryd.sizeOf64
  v75 := Tryd.zeroValue64
  t76 := Tryd.underlying82
  a76 := Tryd.isAgg82
  z76 := Tryd.sizeOf82
  v76 := Tryd.zeroValue82
  t127 := Tryd.underlying112
  a127 := Tryd.isAgg112
  z127 := Tryd.sizeOf112
  v127 := Tryd.zeroValue112
  t164 := Tryd.underlying137
  a164 := Tryd.isAgg137
  z164 := Tryd.sizeOf137
  v164 := Tryd.zeroValue137 }
theorem Tryd.Builder_Extra_156 : Builder.Extra Tryd.prog Tryd.lays156_ren := {
  sizeBuilder := by kernel_rfl
  liesBuilder := by kernel_rfl
  t5 := Tryd.underlying5
  a5 := Tryd.isAgg5
  z5 := Tryd.sizeOf5
  v5 := Tryd.zeroValue5
  infoByte := by kernel_rfl
  cellsByte := by kernel_rfl
  sizeByte := by kernel_rfl
  neB5 := by decide }
open Go.RowKit in
theorem Tryd.strings_Join_none (a : Option Addr) (c : Nat) (sep : ByteArray) (w : World) :
    Calls Tryd.prog 40 #[.slice a 0 c, .string sep] w fun e w' => e = .returned (.string ⟨#[]⟩) ∧ w' = w := Any.strings_Join_none Tryd.lays156 Tryd.Builder_Extra_156 a c sep w
open Go.RowKit in
theorem Tryd.strings_Join (bk o c : Nat) (xs : List ByteArray) (sep : ByteArray) (w : World) (hcells : ∀ (j : Nat) x, xs[j]? = some x → w.cell? ⟨bk, o + j, none⟩ = some (.string x)) (hbk : bk < w.heap.size) (hN : xs.length ≤ 140737488355328) (hcap : xs.length ≤ c) (hlen : (Lib.join (xs.map (·.data.toList)) sep.data.toList).length ≤ 140737488355328) :
    Calls Tryd.prog 40 #[.slice (some ⟨bk, o, none⟩) xs.length c, .string sep] w fun e w' => e = .returned (.string ⟨(Lib.join (xs.map (·.data.toList)) sep.data.toList).toArray⟩) ∧ Below w.heap.size w w' := Any.strings_Join Tryd.lays156 Tryd.Builder_Extra_156 bk o c xs sep w hcells hbk hN hcap hlen
def Tryd.laysM171_ren : Go.Shelf.Ren := ⟨fun | 171 => 59 | 243 => 96 | 246 => 120 | 283 => 129 | 284 => 130 | 285 => 131 | 286 => 132 | 129 => 136 | 317 => 135 | 318 => 137 | 319 => 138 | 320 => 139 | 337 => 140 | 338 => 141 | n => n, fun | 3 => 3 | 9 => 9 | 2 => 2 | 4 => 4 | 171 => 189 | 0 => 0 | 53 => 190 | 37 => 51 | 5 => 5 | 173 => 193 | 212 => 198 | 51 => 199 | 20 => 20 | 213 => 200 | 46 => 201 | 232 => 204 | 233 => 205 | n => n, fun | 17 => 6 | 18 => 7 | 19 => 8 | n => n⟩
theorem Tryd.laysM171 : Go.Proofs.LaysM.n171 Tryd.prog Tryd.laysM171_ren := {
  mixed := by kernel_rfl
  f129 := Tryd.func136.trans (congrArg some (by kernel_rfl))
  f171 := Tryd.func59.trans (congrArg some (by kernel_rfl))
  f243 := Tryd.func96.trans (congrArg some (by kernel_rfl))
  f246 := Tryd.func120.trans (congrArg some (by kernel_rfl))
  f283 := Tryd.func129.trans (congrArg some (by kernel_rfl))
  f284 := Tryd.func130.trans (congrArg some (by kernel_rfl))
  f285 := Tryd.func131.trans (congrArg some (by kernel_rfl))
  f286 := Tryd.func132.trans (congrArg some (by kernel_rfl))
  f317 := Tryd.func135.trans (congrArg some (by kernel_rfl))
  f318 := Tryd.func137.trans (congrArg some (by kernel_rfl))
  f319 := Tryd.func138.trans (congrArg some (by kernel_rfl))
  f320 := Tryd.func139.trans (congrArg some (by kernel_rfl))
  f337 := Tryd.func140.trans (congrArg some (by kernel_rfl))
  f338 := Tryd.func141.trans (congrArg some (by kernel_rfl))
  t0 := Tryd.underlying0
  a0 := Tryd.isAgg0
  z0 := Tryd.sizeOf0
  v0 := Tryd.zeroValue0
  t2 := Tryd.underlying2
  a2 := Tryd.isAgg2
  z2 := Tryd.sizeOf2
  v2 := Tryd.zeroValue2
  t3 := Tryd.underlying3
  a3 := Tryd.isAgg3
  z3 := Tryd.sizeOf3
  v3 := Tryd.zeroValue3
  t4 := Tryd.underlying4
  a4 := Tryd.isAgg4
  z4 := Tryd.sizeOf4
  v4 := Tryd.zeroValue4
  t5 := Tryd.underlying5
  a5 := Tryd.isAgg5
  z5 := Tryd.sizeOf5
  v5 := Tryd.zeroValue5
  t9 := Tryd.underlying9
  a9 := Tryd.isAgg9
  z9 := Tryd.sizeOf9
  v9 := Tryd.zeroValue9
  t20 := Tryd.underlying20
  a20 := Tryd.isAgg20
  z20 := Tryd.sizeOf20
  v20 := Tryd.zeroValue20
  t37 := Tryd.underlying51
  a37 := Tryd.isAgg51
  z37 := Tryd.sizeOf51
  v37 := Tryd.zeroValue51
  t46 := Tryd.underlying201
  a46 := Tryd.isAgg201
  z46 := Tryd.sizeOf201
  v46 := Tryd.zeroValue201
  t51 := Tryd.underlying199
  a51 := Tryd.isAgg199
  z51 := Tryd.sizeOf199
  v51 := Tryd.zeroValue199
  t53 := Tryd.underlying190
  a53 := Tryd.isAgg190
  z53 := Tryd.sizeOf190
  v53 := Tryd.zeroValue190
  t171 := Tryd.underlying189
  a171 := Tryd.isAgg189
  z171 := Tryd.sizeOf189
  v171 := Tryd.zeroValue189
  t173 := Tryd.underlying193
  a173 := Tryd.isAgg193
  z173 := Tryd.sizeOf193
  v173 := Tryd.zeroValue193
  t212 := Tryd.underlying198
  a212 := Tryd.isAgg198
  z212 := Tryd.sizeOf198
  v212 := Tryd.zeroValue198
  t213 := Tryd.underlying200
  a213 := Tryd.isAgg200
  z213 := Tryd.sizeOf200
  t232 := Tryd.underlying204
  a232 := Tryd.isAgg204
  z232 := Tryd.sizeOf204
  v232 := Tryd.zeroValue204
  t233 := Tryd.underlying205
  a233 := Tryd.isAgg205
  z233 := Tryd.sizeOf205
  v233 := Tryd.zeroValue205
  g17 := by kernel_rfl
  g18 := by kernel_rfl
  g19 := by kernel_rfl
  i0 := by kernel_rfl
  i2 := by kernel_rfl
  i3 := by kernel_rfl
  i4 := by kernel_rfl
  i5 := by kernel_rfl
  i9 := by kernel_rfl
  i20 := by kernel_rfl
  i37 := by kernel_rfl
  i46 := by kernel_rfl
  i51 := by kernel_rfl
  i53 := by kernel_rfl
  i171 := by kernel_rfl
  i173 := by kernel_rfl
  i212 := by kernel_rfl
  i232 := by kernel_rfl
  i233 := by kernel_rfl
  m17 := by kernel_rfl
  m18 := by kernel_rfl
  m19 := by kernel_rfl }
open Go.RowKit Go.Sort Go.Lib in
theorem Tryd.strconv_Itoa (n : Int) (h0 : -9223372036854775808 ≤ n) (h1 : n ≤ 9223372036854775807) (w : World) (htab : Lib.TabIs Tryd.prog w "internal/strconv.uint64pow10" .u64 Lib.pow10Tab) :
    Calls Tryd.prog 59 #[.int .i64 n] w fun e w' => e = .returned (.string ⟨(Lib.itoa n).toArray⟩) ∧ ∃ k os, w' = grow (w.drewN k) os := Any.strconv_Itoa Tryd.laysM171 n h0 h1 w htab
def Tryd.laysNm215_ren : Go.Shelf.Ren := ⟨fun | 15 => 28 | n => n, fun | 22 => 53 | 3 => 3 | 4 => 4 | n => n, fun | n => n⟩
theorem Tryd.laysNm215 : Go.Proofs.Lays2.n15 Tryd.prog Tryd.laysNm215_ren := {
  mixed := by kernel_rfl
  f15 := Tryd.func28.trans (congrArg some (by kernel_rfl))
  t3 := Tryd.underlying3
  a3 := Tryd.isAgg3
  z3 := Tryd.sizeOf3
  v3 := Tryd.zeroValue3
  t4 := Tryd.underlying4
  a4 := Tryd.isAgg4
  z4 := Tryd.sizeOf4
  v4 := Tryd.zeroValue4
  t22 := Tryd.underlying53
  a22 := Tryd.isAgg53
  z22 := Tryd.sizeOf53
  v22 := Tryd.zeroValue53
  i3 := by kernel_rfl }
open Go.RowKit Go.Lib in
theorem Tryd.slices_Clone_int (b off n c : Nat) (zs : List Int) (w : World) (hz : n ≤ zs.length) (hbig : n * 8 ≤ 140737488355328) (hc : ∀ j, j < zs.length → w.cell? ⟨b, off + j, none⟩ = some (.int .i64 (zs.getD j 0))) :
    Calls Tryd.prog 28 #[.slice (some ⟨b, off, none⟩) n c] w fun e w' => ∃ v', e = .returned v' ∧ w'.ownsRow w.heap.size 3 1 v' n ((zs.take n).map (Value.int .i64)) ∧ v' ≠ .slice none 0 0 ∧ Below w.heap.size w w' := Any.slices_Clone_int Tryd.laysNm215 b off n c zs w hz hbig hc
open Go.RowKit Go.Lib in
theorem Tryd.slices_Clone_int_nil (n c : Nat) (w : World) :
    Calls Tryd.prog 28 #[.slice none n c] w fun e w' => e = .returned (.slice none 0 0) ∧ w' = w := Any.slices_Clone_int_nil Tryd.laysNm215 n c w
open Go.RowKit Go.Lib in
theorem Tryd.slices_Clone_int_zero (a : Addr) (c : Nat) (w : World) :
    Calls Tryd.prog 28 #[.slice (some a) 0 c] w fun e w' => ∃ v', e = .returned v' ∧ w'.ownsRow w.heap.size 3 1 v' 0 [] ∧ v' ≠ .slice none 0 0 ∧ Below w.heap.size w w' := Any.slices_Clone_int_zero Tryd.laysNm215 a c w
end Go.Proofs
namespace Go.Proofs.YtjlglimikbfgmaaDoor.PT
open Go.RowKit Go.Proofs.YtjlglimikbfgmaaDoor.P Go.Proofs.YtjlglimikbfgmaaDoorW.PrintWords Go.Proofs.YtjlglimikbfgmaaDoorW.PrintLast Go.Proofs.YtjlglimikbfgmaaDoor.EvKit
set_option linter.unusedVariables false
set_option linter.unusedSimpArgs false
theorem bl_of {s : ByteArray} {l : List UInt8} (h : s = ba l) : bl s = l := by rw [h, bl_ba]
theorem add_block (a : Addr) (n : Nat) : (a.add n).block = a.block := by unfold Addr.add; split <;> rfl
theorem cell_onB {W W' : World} {p : Addr} {v : Value} (h : W.cell? p = some v) (hb : Below W.heap.size W W') : W'.cell? p = some v := (hb.cell (World.block_lt_of_cell? W _ h)).trans h
theorem cell_grownD {w w' : World} {b : Option Nat} (hg : w.grownBy w' b) {p : Addr} {v : Value} (h : w.cell? p = some v) (hne : some p.block ≠ b) : w'.cell? p = some v := by
  have hk := World.block_lt_of_cell? w _ h
  unfold World.cell? at h ⊢; rw [hg.block p.block hk hne]; exact h
theorem addr_of {w : World} {a : Addr} {v : Value} (h : w.cell? a = some v) : a = ⟨a.block, a.off, none⟩ := by
  obtain ⟨b, o, s⟩ := a
  cases s with
  | none => rfl
  | some s =>
    unfold World.cell? at h
    split at h
    · simp at h
    · cases h
theorem addr_add (b o j : Nat) : (⟨b, o, none⟩ : Addr).add j = ⟨b, o + j, none⟩ := by
  unfold Addr.add
  split
  · rename_i h; subst h; rfl
  · rfl
theorem below_grow (w : World) (k : Nat) (os : Array Obj) : Below w.heap.size w (Sort.grow (w.drewN k) os) :=
  ⟨rfl, rfl, rfl, by show w.heap.size ≤ (w.heap ++ os).size; rw [Array.size_append]; omega, fun j hj => by show (w.heap ++ os)[j]? = _; exact Array.getElem?_append_left hj⟩
abbrev BT (b : Nat) (t : List UInt8) (W : World) : Prop := BldU b b (Lib.byteCells t) W
theorem ws_walk (b : Nat) (t : List UInt8) (s : ByteArray) (W : World) (h : Bld b b (Lib.byteCells t) W) (hlen : t.length + s.size ≤ 140737488355328) (hW : b ≤ W.heap.size) :
    Calls Tryd.prog 39 #[.pointer (some ⟨b, 0, none⟩), .string s] W fun e w' => e = .returned (.tuple #[.int .i64 s.size, .nilIface]) ∧ BT b (t ++ bl s) w' ∧ Below b W w' ∧ Keep b W w' := by
  refine (writeString_walk b b (Lib.byteCells t) s W h (by rw [Lib.byteCells_length]; exact hlen) hW).mono ?_
  rintro e w' ⟨rfl, h1, h2, h3⟩
  refine ⟨rfl, ?_, h2, h3⟩
  show BldU b b (Lib.byteCells (t ++ bl s)) w'
  rw [Lib.byteCells_append]
  exact h1
theorem bldAt_below {B b : Nat} {p : Value} {bs : List Value} {W W' : World} (h : Lib.BuilderAt 61 5 B b p bs W) (hb : Below W.heap.size W W') : Lib.BuilderAt 61 5 B b p bs W' := by
  have hlt := h.lt
  obtain ⟨h1, v, h2, h3, h4⟩ := h
  exact ⟨h1, v, (hb.block b hlt).trans h2, pw_own_below h3 hb, h4⟩
theorem bld_below {B b : Nat} {bs : List Value} {W W' : World} (h : Bld B b bs W) (hb : Below W.heap.size W W') : Bld B b bs W' := h.elim (fun h => .inl (bldAt_below h hb)) (fun h => .inr (bldAt_below h hb))
theorem bld_lt {B b : Nat} {bs : List Value} {W : World} (h : Bld B b bs W) : b < W.heap.size := h.elim (fun h => h.lt) (fun h => h.lt)
theorem wb_walk (b : Nat) (t : List UInt8) (W : World) (h : Bld b b (Lib.byteCells t) W) (hlen : t.length + 1 ≤ 140737488355328) (hW : b ≤ W.heap.size) :
    Calls Tryd.prog 27 #[.pointer (some ⟨b, 0, none⟩), .int .u8 10] W fun e w' => e = .returned .nilIface ∧ BT b (t ++ [10]) w' ∧ Below b W w' ∧ Keep b W w' := by
  refine (writeByte_walk b b (Lib.byteCells t) 10 W h (by rw [Lib.byteCells_length]; exact hlen) hW).mono ?_
  rintro e w' ⟨rfl, h1, h2, h3⟩
  refine ⟨rfl, ?_, h2, h3⟩
  show BldU b b (Lib.byteCells (t ++ [10])) w'
  rw [Lib.byteCells_append]
  exact h1
theorem fresh_at (w : World) : Lib.BuilderAt 61 5 w.heap.size w.heap.size (.pointer none) [] (w.alloc (.cells #[.pointer none, .slice none 0 0] 61)) := by
  rcases Lib.fresh_isBuilder 61 5 w with h | h
  · exact h
  · exact absurd h.cell0 (by simp)
theorem at_new (W : World) (o : Obj) : (W.alloc o).heap[W.heap.size]? = some o := by
  have : (W.alloc o).heap = W.heap.push o := rfl
  rw [this]; simp
theorem at_newO (W : World) (o o2 : Obj) : ((W.alloc o).alloc o2).heap[W.heap.size]? = some o := (Lib.alloc_old (W.alloc o) o2 W.heap.size (by simp)).trans (at_new W o)
theorem var_at (W : World) (v : Int) (T : TypeId) (b : Nat) (hb : b = W.heap.size) : ∀ i : Nat, (hi : i < [v].length) → (W.alloc (.cells #[.int .i64 v] T)).cell? ((⟨b, 0, none⟩ : Addr).add i) = some (.int .i64 [v][i]) := by
  intro i hi
  have : i = 0 := by simpa using hi
  subst this
  subst hb
  simp [Addr.add]
theorem var_ty (W : World) (v : Int) (T : TypeId) (b : Nat) (hb : b = W.heap.size) (hT : T ≠ 5) : ∃ cs T' fr, (W.alloc (.cells #[.int .i64 v] T)).heap[(⟨b, 0, none⟩ : Addr).block]? = some (.cells cs T' fr) ∧ T' ≠ 5 := by
  subst hb
  exact ⟨_, _, _, at_new W _, hT⟩
theorem below_le {B C : Nat} {W W' : World} (h : Below C W W') (hle : B ≤ C) : Below B W W' := ⟨h.os, h.tape, h.output, h.size, fun k hk => h.block k (by omega)⟩
def Q4 (W : World) (n : Nat) (b c d e : Value) : Prop := W.cell? ⟨n, 0, none⟩ = some b ∧ W.cell? ⟨n, 1, none⟩ = some c ∧ W.cell? ⟨n, 2, none⟩ = some d ∧ W.cell? ⟨n, 3, none⟩ = some e
theorem Q4.on {W W' : World} {n B : Nat} {b c d e : Value} (h : Q4 W n b c d e) (hb : Below B W W') (hn : n < B) : Q4 W' n b c d e := ⟨(hb.cell (p := ⟨n, 0, none⟩) hn).trans h.1, (hb.cell (p := ⟨n, 1, none⟩) hn).trans h.2.1, (hb.cell (p := ⟨n, 2, none⟩) hn).trans h.2.2.1, (hb.cell (p := ⟨n, 3, none⟩) hn).trans h.2.2.2⟩
end Go.Proofs.YtjlglimikbfgmaaDoor.PT
namespace Go.Proofs.YtjlglimikbfgmaaDoor.PT
open Go.RowKit Go.Proofs.YtjlglimikbfgmaaDoor.P Go.Proofs.YtjlglimikbfgmaaDoorW.PrintWords Go.Proofs.YtjlglimikbfgmaaDoorW.PrintLast Go.Proofs.YtjlglimikbfgmaaDoor.EvKit
set_option linter.unusedVariables false
set_option linter.unusedSimpArgs false
theorem keep_cell {b : Nat} {W W' : World} {a : Addr} {v : Value} (hk : Keep b W W') (h : W.cell? a = some v) (hne : a.block ≠ b) (hT : ∃ cs T fr, W.heap[a.block]? = some (.cells cs T fr) ∧ T ≠ 5) : W'.cell? a = some v := by
  obtain ⟨cs, T, fr, h1, h2⟩ := hT
  have h3 := hk a.block cs T fr hne h2 h1
  unfold World.cell? at h ⊢
  rw [h1] at h
  rw [h3]
  exact h
set_option maxHeartbeats 4000000 in
set_option maxRecDepth 100000 in
theorem spaced_walk (b : Nat) (t : List UInt8) (word : ByteArray) (ad : Addr) (c : Nat) (ns : List Int) (n : Nat) (hnn : n = ns.length) (w0 W : World) (h : Bld b b (Lib.byteCells t) W) (hp : Pow10 w0) (hb0 : Below w0.heap.size w0 W) (hle : w0.heap.size ≤ b)
    (hrd : ∀ i : Nat, (hi : i < ns.length) → W.cell? (ad.add i) = some (.int .i64 ns[i])) (hT : ∃ cs T fr, W.heap[ad.block]? = some (.cells cs T fr) ∧ T ≠ 5) (hne : ad.block ≠ b) (hv : ∀ v, v ∈ ns → I64 v) (hn : ns.length ≤ 100) (ht : t.length ≤ 100000000000) (hw : word.size ≤ 1000) (hbW : b ≤ W.heap.size) :
    Calls Tryd.prog 26 #[.pointer (some ⟨b, 0, none⟩), .string word, .slice (some ad) n c] W fun e w' => e = .returned (.tuple #[]) ∧ BT b (t ++ bl word ++ spT ns) w' ∧ Below b W w' ∧ Keep b W w' := by
  subst hnn
  have HH := Aside0.mk h
  have HRD := Aside0.mk hrd
  have HTY := Aside0.mk hT
  have HV := Aside0.mk hv
  have HW := Aside0.mk hbW
  have HPW : Aside0 (∀ W', Below b W W' → Pow10 W') := ⟨fun W' hb => hp.below (hb0.trans (below_le hb hle))⟩
  clear h hrd hT hv hp hb0 hle hbW
  go_enter Tryd.func26, Tryd.ntmps26
  go_wp2_with (first | (go_at_call 39; refine (ws_walk b t _ _ HH.out (by omega) HW.out).mono ?_; rintro e w1 ⟨rfl, ht1, hb1, hk1⟩; have HT1 : Aside0 (BT b (t ++ bl word) w1) := ⟨ht1⟩; have HB1 := Aside0.mk hb1; have HK1 := Aside0.mk hk1; clear ht1 hb1 hk1))
  go_loopw [13] (fun i wr => ∃ x : Int, i = .int .i64 x ∧ 0 ≤ x ∧ x ≤ (ns.length : Int) ∧ Aside0 (BT b (t ++ bl word ++ spT (ns.take x.toNat)) wr) ∧ Aside0 (Below b W wr) ∧ Aside0 (Keep b W wr)) (fun i _ => ns.length - (intOf i).toNat)
  case atStart => exact ⟨0, rfl, by omega, by omega, ⟨by simpa [spT_nil] using HT1.out⟩, HB1, HK1⟩
  case round =>
    clear HT1 HB1 HK1
    obtain ⟨x, rfl, h0, hle, HT2, HB2, HK2⟩ := hrel
    obtain ⟨T, hT⟩ : ∃ T, T = t ++ bl word ++ spT (ns.take x.toNat) := ⟨_, rfl⟩
    have HL : Aside0 (T.length ≤ 100000003300) := ⟨by
      have h5 := spT_len (ns.take x.toNat) (fun v hv => HV.out v (List.mem_of_mem_take hv))
      rw [List.length_take] at h5
      rw [hT]; simp only [List.length_append, bl_len]; omega⟩
    rw [← hT] at HT2
    by_cases hlt : x < (ns.length : Int)
    · have hn2 : x.toNat < ns.length := by omega
      have HE : Aside0 (t ++ bl word ++ spT (ns.take (x + 1).toNat) = T ++ ([32] ++ Lib.itoa ns[x.toNat])) := ⟨by
        rw [show (x + 1).toNat = x.toNat + 1 by omega, spT_take ns x.toNat hn2, hT]; simp only [List.append_assoc]⟩
      have hvv := HV.out _ (List.getElem_mem hn2)
      have hc : wr.cell? (ad.add x.toNat) = some (.int .i64 ns[x.toNat]) := keep_cell HK2.out (HRD.out x.toNat hn2) (by rw [add_block]; exact hne) (by rw [add_block]; exact HTY.out)
      clear hT
      generalize ns[x.toNat] = v at *
      obtain ⟨Z, hZ⟩ : ∃ Z, Z = ba (Lib.itoa v) := ⟨_, rfl⟩
      have HI : Aside0 (∀ W', Below b W W' → Calls Tryd.prog 59 #[.int .i64 v] W' fun e w' => e = .returned (.string Z) ∧ ∃ k os, w' = Sort.grow (W'.drewN k) os) := ⟨fun W' hb => by rw [hZ]; exact Tryd.strconv_Itoa v hvv.1 hvv.2 W' (HPW.out W' hb)⟩
      have hZs : Z.size ≤ 21 := by rw [hZ, ba_size]; exact Lib.itoa_length_le v hvv.1 hvv.2
      have s1 : (9223372036854775807 < 1 + Z.size) = False := eq_false (by omega)
      have HZ2 : Aside0 ((⟨#[32]⟩ ++ Z : ByteArray).size ≤ 22) := ⟨by rw [ByteArray.size_append]; have : (⟨#[32]⟩ : ByteArray).size = 1 := rfl; omega⟩
      have HZb : Aside0 (bl (⟨#[32]⟩ ++ Z) = [32] ++ Lib.itoa v) := ⟨by rw [hZ]; rfl⟩
      clear hZ hvv hZs
      have HS2 : Aside0 (b ≤ wr.heap.size) := ⟨by have h9 := HB2.out.size; have := HW.out; omega⟩
      go_wp2_with (first | (go_at_call 59; refine (HI.out _ HB2.out).mono ?_; rintro e w2 ⟨rfl, ⟨k, os, hw2⟩⟩; have HT3 : Aside0 (BT b T w2) := ⟨by rw [hw2]; exact bldU_below HT2.out (below_grow _ _ _)⟩; have HB3 : Aside0 (Below b W w2) := ⟨by rw [hw2]; exact HB2.out.trans (below_le (below_grow _ _ _) HS2.out)⟩; have HK3 : Aside0 (Keep b W w2) := ⟨by rw [hw2]; exact HK2.out.below (below_grow _ _ _)⟩; have HS3 : Aside0 (b ≤ w2.heap.size) := ⟨by have h9 := HB3.out.size; have := HW.out; omega⟩; clear hw2) | (go_at_call 39; refine (ws_walk b T _ _ (.inr HT3.out) (by have := HL.out; have := HZ2.out; omega) HS3.out).mono ?_; rintro e w4 ⟨rfl, ht4, hb4, hk4⟩))
      go_roundw
      case rel => exact ⟨x + 1, rfl, by omega, by omega, ⟨by rw [HE.out, ← HZb.out]; exact ht4⟩, ⟨HB3.out.trans hb4⟩, ⟨HK3.out.trans hk4⟩⟩
      case measure => simp [intOf]; omega
    · have hx : ns.take x.toNat = ns := List.take_of_length_le (by omega)
      rw [hx] at hT
      clear hx
      go_wp2
      go_end0
      exact ⟨rfl, by have h7 := HT2.out; rw [hT] at h7; simpa only [List.append_assoc] using h7, HB2.out, HK2.out⟩
theorem clone_walk (A : Option Addr) (c : Nat) (row : List Int) (W : World) (hr : Kd.C (Kd.int .i64) W A row.length row) (hpos : 0 < row.length) (hlen : row.length ≤ 3) :
    Calls Tryd.prog 28 #[.slice A row.length c] W fun e w' => ∃ v', e = .returned v' ∧ w'.ownsRow W.heap.size 3 1 v' row.length (row.map (Value.int .i64)) ∧ Below W.heap.size W w' := by
  obtain ⟨ad, rfl, h0⟩ := Kd.at_int hr 0 (by omega) (by omega)
  have h0' : W.cell? ad = some (.int .i64 (rd row 0)) := by simpa [Addr.add] using h0
  have e := addr_of h0'
  obtain ⟨b, o, s⟩ := ad
  simp only [Addr.mk.injEq] at e
  obtain ⟨_, _, rfl⟩ := e
  refine (Tryd.slices_Clone_int b o row.length c row W (Nat.le_refl _) (by omega) ?_).mono ?_
  · intro j hj
    obtain ⟨ad, e, h1⟩ := Kd.at_int hr (j : Int) (by omega) (by omega)
    cases e
    have h2 : ((j : Int)).toNat = j := by omega
    rw [h2, addr_add] at h1
    rw [h1]
    unfold rd
    rw [h2]
  · rintro e w' ⟨v', he, ho, _, hb⟩
    rw [List.take_length] at ho
    exact ⟨v', he, ho, hb⟩
def QD (W : World) (n : Nat) (wad : Addr) (f0 : ByteArray) (s3 : Value) (wv : Int) : Prop := W.cell? ⟨n, 0, none⟩ = some (.string f0) ∧ W.cell? ⟨n, 3, none⟩ = some s3 ∧ W.cell? wad = some (.int .i64 wv)
theorem QD.on {W W' : World} {n : Nat} {wad : Addr} {f0 : ByteArray} {s3 : Value} {wv : Int} (h : QD W n wad f0 s3 wv) (hb : Below W.heap.size W W') : QD W' n wad f0 s3 wv := ⟨cell_onB h.1 hb, cell_onB h.2.1 hb, cell_onB h.2.2 hb⟩
theorem QD.grown {W W' : World} {b : Option Nat} {n : Nat} {wad : Addr} {f0 : ByteArray} {s3 : Value} {wv : Int} (h : QD W n wad f0 s3 wv) (hg : W.grownBy W' b) (h1 : some n ≠ b) (h2 : some wad.block ≠ b) : QD W' n wad f0 s3 wv := ⟨cell_grownD hg h.1 h1, cell_grownD hg h.2.1 h1, cell_grownD hg h.2.2 h2⟩
theorem own_lower {W : World} {B C e n : Nat} {v : Value} {xs : List Value} (h : W.ownsRow C e 1 v n xs) (hle : B ≤ C) : W.ownsRow B e 1 v n xs := by
  obtain ⟨h1, h2 | ⟨g, cap, cur, h3, h4, h5⟩⟩ := h
  · exact ⟨h1, .inl h2⟩
  · exact ⟨h1, .inr ⟨g, cap, cur, h3, by omega, h5⟩⟩
theorem own_read {W : World} {B : Nat} {v : Value} {row : List Int} {wv : Int} (h : W.ownsRow B 3 1 v (row.length + 1) (row.map (Value.int .i64) ++ [.int .i64 wv])) : ∃ g cap, v = .slice (some ⟨g, 0, none⟩) (row.length + 1) cap ∧ B ≤ g ∧ (∃ cs T fr, W.heap[g]? = some (.cells cs T fr) ∧ T ≠ 5) ∧ ∀ i : Nat, (hi : i < (row ++ [wv]).length) → W.cell? ((⟨g, 0, none⟩ : Addr).add i) = some (.int .i64 (row ++ [wv])[i]) := by
  rcases h.2 with ⟨_, h0⟩ | ⟨g, cap, cur, rfl, hg, hh, _⟩
  · omega
  · refine ⟨g, cap, rfl, hg, ⟨cur, _, _, hh, by decide⟩, fun i hi => ?_⟩
    refine h.cells (g := g) rfl i _ ?_
    have e : row.map (Value.int .i64) ++ [.int .i64 wv] = (row ++ [wv]).map (Value.int .i64) := by simp
    rw [e, List.getElem?_map, List.getElem?_eq_getElem hi]
    rfl
theorem own_ge {W : World} {B e n : Nat} {v : Value} {xs : List Value} (h : W.ownsRow B e 1 v n xs) {k : Nat} (hk : k < B) : some k ≠ v.ownBlock := by
  rcases h.2 with ⟨rfl, _⟩ | ⟨g, cap, cur, rfl, hg, _⟩
  · simp [Value.ownBlock]
  · simp only [Value.ownBlock]; intro e; injection e with e; omega
theorem bldU_grown {B b : Nat} {bs : List Value} {W W' : World} {r : Option Nat} (h : BldU B b bs W) (hg : W.grownBy W' r) (hr : ∀ k, k < W.heap.size → some k = r → ∃ cs T fr, W.heap[k]? = some (.cells cs T fr) ∧ T ≠ 5 ∧ k ≠ b) : BldU B b bs W' := by
  have hlt := h.lt
  obtain ⟨h1, v, h2, h3, h4⟩ := h
  refine ⟨h1, v, (hg.block b hlt (fun e => ?_)).trans h2, h3.kept hg ?_, h4⟩
  · obtain ⟨_, _, _, _, _, h5⟩ := hr b hlt e
    exact h5 rfl
  · rcases h3.2 with ⟨rfl, _⟩ | ⟨g, cap, cur, rfl, hg2, hh, _⟩
    · exact .inl rfl
    · refine .inr (fun e => ?_)
      simp only [Value.ownBlock] at e
      have hlt2 := (Array.getElem?_eq_some_iff.1 hh).1
      obtain ⟨cs, T, fr, h5, h6, _⟩ := hr g hlt2 e
      rw [hh] at h5
      injection h5 with h5
      injection h5 with _ h7 _
      exact h6 h7.symm
theorem own_ty {W : World} {B n : Nat} {v : Value} {xs : List Value} (h : W.ownsRow B 3 1 v n xs) {b : Nat} (hb : b < B) : ∀ k, k < W.heap.size → some k = v.ownBlock → ∃ cs T fr, W.heap[k]? = some (.cells cs T fr) ∧ T ≠ 5 ∧ k ≠ b := by
  intro k _ e
  rcases h.2 with ⟨rfl, _⟩ | ⟨g, cap, cur, rfl, hg, hh, _⟩
  · simp [Value.ownBlock] at e
  · simp only [Value.ownBlock] at e
    injection e with e
    subst e
    exact ⟨cur, _, _, hh, by decide, by omega⟩
set_option maxHeartbeats 8000000 in
set_option maxRecDepth 100000 in
theorem printD_walk (A : Option Addr) (c : Nat) (l : List Rel) (w : World) (hr : Kd.C k55 w A l.length l) (hc : l.length ≤ c) (hD : ∃ k, impl_DataOK.f k l = some (dataOKb l)) (hp : Pow10 w) :
    Calls Tryd.prog 9 #[.agg #[.slice A l.length c]] w fun e w' => e = .returned (.string (printD l)) ∧ Below w.heap.size w w' := by
  have hu1 := Tryd.underlying29
  have hu2 := Tryd.underlying55
  have hu4 := Tryd.underlying61
  obtain ⟨kD, hD⟩ := hD
  have HB := Aside0.mk (Below.refl w.heap.size w)
  have HD : Aside0 (∀ W, Below w.heap.size w W → Calls Tryd.prog 25 #[.agg #[.slice A l.length c]] W fun e W' => e = .returned (.bool (dataOKb l)) ∧ Below W.heap.size W W') := ⟨fun W hW => impl_DataOK.calls kD A c l _ W (Kd.C_below hr hW) hc hD⟩
  by_cases h : dataOKb l = true
  · have HG : Aside0 (printD l = ba (dataT l)) := ⟨by unfold printD; rw [if_pos h]⟩
    have HR := Aside0.mk hr
    have HP0 := Aside0.mk hp
    obtain ⟨h50, hS⟩ := data_parts h
    have HS0 := Aside0.mk hS
    rw [h] at HD
    clear h hD hr hp hS
    go_enter Tryd.func9, Tryd.ntmps9
    go_wp2_with (first | (go_at_call 25; (with_reducible refine (HD.out _ (below_alloc HB.out _)).mono ?_); rintro e w1 ⟨rfl, hb1⟩; have HB1 : Aside0 (Below w.heap.size w w1) := ⟨below_step (below_alloc HB.out _) hb1⟩; have q0 : w1.cell? ⟨w.heap.size, 0, none⟩ = some (.slice A l.length c) := (hb1.cell (p := ⟨w.heap.size, 0, none⟩) (by simp)).trans (by go_simp); have HZ : Aside0 (w.heap.size < w1.heap.size) := ⟨by have := hb1.size; simp at this; omega⟩; have hz := HZ.out; clear hb1))
    go_loopw [14] (fun i wr => ∃ x : Int, i = .int .i64 x ∧ 0 ≤ x ∧ x ≤ (l.length : Int) ∧ Aside0 (Bld w1.heap.size w1.heap.size (Lib.byteCells (dataT (l.take x.toNat))) wr) ∧ Aside0 (Below w.heap.size w wr) ∧ Aside0 (w1.heap.size < wr.heap.size)) (fun i _ => l.length - (intOf i).toNat)
    case atStart => exact ⟨0, rfl, by omega, by omega, ⟨.inl (fresh_at w1)⟩, ⟨below_alloc HB1.out _⟩, ⟨by simp⟩⟩
    case round =>
      clear HB1 q0 hz
      obtain ⟨x, rfl, h0, hle, HT6, HB6, HS6⟩ := hrel
      obtain ⟨W6, hW6⟩ : ∃ W6, W6 = wr := ⟨_, rfl⟩
      subst hW6
      obtain ⟨T, hT⟩ : ∃ T, T = dataT (l.take x.toNat) := ⟨_, rfl⟩
      have HL6 : Aside0 (T.length ≤ 20003000) := ⟨by
        have h5 := dataT_len HS0.out x.toNat (by omega)
        rw [hT]; omega⟩
      rw [← hT] at HT6
      by_cases hlt : x < (l.length : Int)
      · obtain ⟨ad, A2, c2, A3, c3, e, hx0, hx1, hx2, hx3, hl2, hi2, hl3, hi3⟩ := at_T55 HR.out x h0 hlt
        cases e
        have hn : x.toNat < l.length := by omega
        have hrd : rd_T55 l x = l[x.toNat] := by unfold rd_T55; simp [List.getD_eq_getElem?_getD, hn]
        have HE : Aside0 (dataT (l.take (x + 1).toNat) = T ++ relT (rd_T55 l x)) := ⟨by
          rw [hrd, show (x + 1).toNat = x.toNat + 1 by omega, dataT_take l x.toNat hn, hT]⟩
        have hA : RelS (rd_T55 l x) := by rw [hrd]; exact HS0.out _ (List.getElem_mem hn)
        clear hrd hT
        replace hx0 := (HB6.out.cell (World.block_lt_of_cell? w _ hx0)).trans hx0
        replace hx1 := (HB6.out.cell (World.block_lt_of_cell? w _ hx1)).trans hx1
        replace hx2 := (HB6.out.cell (World.block_lt_of_cell? w _ hx2)).trans hx2
        replace hx3 := (HB6.out.cell (World.block_lt_of_cell? w _ hx3)).trans hx3
        have HR2 := Aside0.mk hi2
        have HR3 := Aside0.mk hi3
        have hlen2 := hi2.2.1
        have hlen3 := hi3.2.1
        clear hi2 hi3
        generalize rd_T55 l x = q at *
        obtain ⟨f0, f1, f2, f3⟩ := q
        dsimp only at *
        have HA := Aside0.mk hA
        have hb0 := hA.nm
        dsimp only at hb0
        clear hA
        have s4 : (9223372036854775807 < 4 + f0.size) = False := eq_false (by omega)
        have HWs : Aside0 ((⟨#[114, 101, 108, 32]⟩ ++ f0 : ByteArray).size ≤ 34) := ⟨by rw [ByteArray.size_append]; have : (⟨#[114, 101, 108, 32]⟩ : ByteArray).size = 4 := rfl; omega⟩
        have HWb : Aside0 (bl (⟨#[114, 101, 108, 32]⟩ ++ f0) = [114, 101, 108, 32] ++ bl f0) := ⟨by rw [bl_append]; rfl⟩
        have HLT : Aside0 (w1.heap.size < W6.heap.size) := ⟨bld_lt HT6.out⟩
        go_wp2_with (first | (go_at_call 26; refine (spaced_walk w1.heap.size T _ ⟨_, 0, none⟩ _ [f1] _ rfl w _ (bld_below HT6.out (below_alloc (below_alloc (Below.refl _ _) _) _)) HP0.out (below_alloc (below_alloc HB6.out _) _) (by have := HZ.out; omega) (var_at _ f1 _ _ (by simp)) (var_ty _ f1 _ _ (by simp) (by decide)) (by have := HLT.out; show _ + 1 ≠ _; omega) (by intro v hv; simp at hv; subst hv; have := HA.out.ar; dsimp only at this; unfold I64; omega) (by simp) (by have := HL6.out; omega) (by have := HWs.out; omega) (by have := HS6.out; simp; omega)).mono ?_; rintro e w7 ⟨rfl, ht7, hb7, hk7⟩; have HT7 : Aside0 (BT w1.heap.size (T ++ ([114, 101, 108, 32] ++ bl f0) ++ spT [f1]) w7) := ⟨by rw [HWb.out] at ht7; exact ht7⟩; have HK7 := Aside0.mk (hk7 _ _ _ _ (by have := HLT.out; omega) (by decide) (at_newO W6 (.cells #[.string f0, .int .i64 f1, .slice A2 f2.length c2, .slice A3 f3.length c3] 55) _)); have HB7 : Aside0 (Below w.heap.size w w7) := ⟨(below_alloc (below_alloc HB6.out _) _).trans (below_le hb7 (by have := HZ.out; omega))⟩; have HS7 : Aside0 (w1.heap.size < w7.heap.size) := ⟨HT7.out.lt⟩; clear ht7 hb7 hk7) | (go_at_call 27; refine (wb_walk w1.heap.size (T ++ ([114, 101, 108, 32] ++ bl f0) ++ spT [f1]) _ (.inr HT7.out) (by have := HL6.out; have h9 := relHd_len HA.out; unfold relHd at h9; simp only [List.length_append, List.length_cons, List.length_nil] at h9 ⊢; omega) (by have := HS7.out; omega)).mono ?_; rintro e w8 ⟨rfl, ht8, hb8, hk8⟩; have HT8 : Aside0 (BT w1.heap.size (T ++ relHd ⟨f0, f1, f2, f3⟩) w8) := ⟨by unfold relHd; simpa only [List.append_assoc] using ht8⟩; have HK8 := Aside0.mk (hk8 _ _ _ _ (by have := HLT.out; omega) (by decide) HK7.out); have HB8 : Aside0 (Below w.heap.size w w8) := ⟨HB7.out.trans (below_le hb8 (by have := HZ.out; omega))⟩; clear ht8 hb8 hk8; have p0 : w8.cell? ⟨W6.heap.size, 0, none⟩ = some (.string f0) := (Lib.cell_of_heap HK8.out 0).trans rfl; have p2 : w8.cell? ⟨W6.heap.size, 2, none⟩ = some (.slice A2 f2.length c2) := (Lib.cell_of_heap HK8.out 2).trans rfl))
        have HLV : Aside0 ((T ++ relHd ⟨f0, f1, f2, f3⟩).length ≤ 20003060) := ⟨by have := HL6.out; have h9 := relHd_len HA.out; rw [List.length_append]; omega⟩
        have HE2 : Aside0 (dataT (l.take (x + 1).toNat) = T ++ relHd ⟨f0, f1, f2, f3⟩ ++ rowsT f0 f2 f3 f2.length) := ⟨by rw [HE.out]; unfold relT; simp only [List.append_assoc]⟩
        generalize T ++ relHd ⟨f0, f1, f2, f3⟩ = V at *
        go_loopw [29] (fun j wi => ∃ y : Int, j = .int .i64 y ∧ 0 ≤ y ∧ y ≤ (f2.length : Int) ∧ Aside0 (BT w1.heap.size (V ++ rowsT f0 f2 f3 y.toNat) wi) ∧ Aside0 (wi.heap[W6.heap.size]? = some (.cells #[.string f0, .int .i64 f1, .slice A2 f2.length c2, .slice A3 f3.length c3] 55 (0, 0))) ∧ Aside0 (Below w.heap.size w wi)) (fun j _ => f2.length - (intOf j).toNat)
        case atStart => exact ⟨0, rfl, by omega, by omega, ⟨by simpa [rowsT_zero] using HT8.out⟩, HK8, HB8⟩
        case round =>
          clear HT7 HT8 HK7 HK8 HB7 HB8 HS7 HT6 HB6 HS6 HE p0 p2 hx0 hx1 hx2 hx3 HWs HWb
          obtain ⟨y, rfl, h20, h2le, HT9, HK9, HB9⟩ := hrel
          obtain ⟨W9, hW9⟩ : ∃ W9, W9 = wr := ⟨_, rfl⟩
          subst hW9
          obtain ⟨R, hR⟩ : ∃ R, R = V ++ rowsT f0 f2 f3 y.toNat := ⟨_, rfl⟩
          have HL9 : Aside0 (R.length ≤ 20500000) := ⟨by
            have h5 := rows_len HA.out y.toNat (by dsimp only; omega)
            have h7 := HA.out.rows
            dsimp only at h5 h7
            have h6 := HLV.out
            rw [hR]; simp only [List.length_append]; omega⟩
          rw [← hR] at HT9
          by_cases hlt2 : y < (f2.length : Int)
          · have hws := HA.out.ws
            dsimp only at hws
            obtain ⟨ad2, A5, c5, e, hz0, hl5, hi5⟩ := at_L1 HR2.out y h20 hlt2
            cases e
            obtain ⟨ad3, e, hz3⟩ := Kd.at_int HR3.out y h20 (by omega)
            cases e
            have hn2 : y.toNat < f2.length := by omega
            have HF2 : Aside0 (V ++ rowsT f0 f2 f3 (y + 1).toNat = R ++ rowT f0 (rd_L1 f2 y) (rd f3 y)) := ⟨by
              rw [show (y + 1).toNat = y.toNat + 1 by omega, rowsT_succ, hR, List.append_assoc]; rfl⟩
            have hrl : rd_L1 f2 y = f2[y.toNat] := getD_mem f2 [] y.toNat hn2
            have hwl : rd f3 y = f3[y.toNat]'(by omega) := getD_mem f3 0 y.toNat (by omega)
            have hlenr : 1 ≤ (rd_L1 f2 y).length ∧ (rd_L1 f2 y).length ≤ 3 := by
              have h5 := HA.out.len y.toNat hn2
              have h6 := HA.out.ar
              dsimp only at h5 h6
              rw [hrl]; omega
            have HV9 : Aside0 (∀ v, v ∈ rd_L1 f2 y ++ [rd f3 y] → I64 v) := ⟨fun v hv => by
              rcases List.mem_append.1 hv with hv | hv
              · rw [hrl] at hv; exact HA.out.vals _ (List.getElem_mem hn2) v hv
              · rw [hwl] at hv; simp at hv; subst hv; exact HA.out.wv _ (List.getElem_mem _)⟩
            have hy3 : y < (f3.length : Int) := by omega
            clear hrl hwl hR hws
            replace hz0 := (HB9.out.cell (World.block_lt_of_cell? w _ hz0)).trans hz0
            have HB3 : Aside0 (ad3.block < w.heap.size) := ⟨by have := World.block_lt_of_cell? w _ hz3; rwa [add_block] at this⟩
            replace hz3 := (HB9.out.cell (World.block_lt_of_cell? w _ hz3)).trans hz3
            have HR5 := Aside0.mk hi5
            have hlen5 := hi5.2.1
            clear hi5
            generalize rd_L1 f2 y = row at *
            generalize rd f3 y = wv at *
            have HQ9 : Aside0 (QD W9 W6.heap.size (ad3.add y.toNat) f0 (.slice (some ad3) f3.length c3) wv) := ⟨(Lib.cell_of_heap HK9.out 0).trans rfl, (Lib.cell_of_heap HK9.out 3).trans rfl, hz3⟩
            obtain ⟨i0, hi, hi0, hi1, hi2⟩ := info_parts info3
            have HLT9 : Aside0 (w1.heap.size < W9.heap.size) := ⟨HT9.out.lt⟩
            have HLN : Aside0 (W6.heap.size < W9.heap.size) := ⟨(Array.getElem?_eq_some_iff.1 HK9.out).1⟩
            go_wp2
            go_region_held3 (fun w' => w'.cell? ⟨W6.heap.size, 0, none⟩ = some (.string f0) ∧ w'.cell? ⟨W6.heap.size, 3, none⟩ = some (.slice (some ad3) f3.length c3) ∧ w'.cell? (ad3.add y.toNat) = some (.int .i64 wv)) (first | exact HQ12.out | exact HQ11.out | exact HQ10.out | exact HQ10.out.on (below_alloc (Below.refl _ _) _) | exact HQ9.out.on (below_drew1 (Below.refl _ _)) | exact HQ9.out.on (below_alloc (below_drew1 (Below.refl _ _)) _)) (first | (go_at_call 28; refine (clone_walk _ _ row _ (Kd.C_below HR5.out (below_drew1 HB9.out)) hlenr.1 hlenr.2).mono ?_; rintro e w10 ⟨v10, rfl, ho10, hb10⟩; have hz10 : Below W9.heap.size W9 w10 := below_step (below_drew1 (Below.refl _ _)) hb10; have HO10 : Aside0 (w10.ownsRow W9.heap.size 3 1 v10 row.length (row.map (Value.int .i64))) := ⟨own_lower ho10 (Nat.le_refl _)⟩; have HB10 : Aside0 (Below w.heap.size w w10) := ⟨HB9.out.trans (below_le hz10 HB9.out.size)⟩; have HT10 : Aside0 (BT w1.heap.size R w10) := ⟨bldU_below HT9.out hz10⟩; have HQ10 : Aside0 (QD w10 W6.heap.size (ad3.add y.toNat) f0 (.slice (some ad3) f3.length c3) wv) := ⟨HQ9.out.on hz10⟩; have HK10 := Aside0.mk ((hz10.block W6.heap.size HLN.out).trans HK9.out); have HN10 : Aside0 (W9.heap.size ≤ w10.heap.size) := ⟨hz10.size⟩; clear ho10 hb10 hz10) | (go_at_call 28; refine (clone_walk _ _ row _ (Kd.C_below HR5.out (below_alloc (below_drew1 HB9.out) (.cells #[.int .i64 wv] 3))) hlenr.1 hlenr.2).mono ?_; rintro e w10 ⟨v10, rfl, ho10, hb10⟩; have hz10 : Below W9.heap.size W9 w10 := below_step (below_alloc (below_drew1 (Below.refl _ _)) _) hb10; have HO10 : Aside0 (w10.ownsRow W9.heap.size 3 1 v10 row.length (row.map (Value.int .i64))) := ⟨own_lower ho10 (below_alloc (below_drew1 (Below.refl W9.heap.size W9)) (.cells #[.int .i64 wv] 3)).size⟩; have HA10 : Aside0 (w10.cell? ⟨W9.heap.size, 0, none⟩ = some (.int .i64 wv)) := ⟨cell_onB (W := W9.drew.alloc (.cells #[.int .i64 wv] 3)) (by go_simp) hb10⟩; have HB10 : Aside0 (Below w.heap.size w w10) := ⟨HB9.out.trans (below_le hz10 HB9.out.size)⟩; have HT10 : Aside0 (BT w1.heap.size R w10) := ⟨bldU_below HT9.out hz10⟩; have HQ10 : Aside0 (QD w10 W6.heap.size (ad3.add y.toNat) f0 (.slice (some ad3) f3.length c3) wv) := ⟨HQ9.out.on hz10⟩; have HK10 := Aside0.mk ((hz10.block W6.heap.size HLN.out).trans HK9.out); have HN10 : Aside0 (W9.heap.size ≤ w10.heap.size) := ⟨hz10.size⟩; clear ho10 hb10 hz10) | (go_at_call 26; refine (spaced_walk w1.heap.size R f0 ⟨g11, 0, none⟩ _ (row ++ [wv]) _ (by simp) w w11 (.inr HT11.out) HP0.out HB11.out (by have := HZ.out; omega) HRD11.out HTY11.out (by have h9 := HG11.out; have h8 := HLT9.out; show g11 ≠ _; omega) HV9.out (by have := hlenr.2; simp; omega) (by have := HL9.out; omega) (by omega) (by have h9 := HT11.out.lt; omega)).mono ?_; rintro e w12 ⟨rfl, ht12, hb12, hk12⟩; have HT12 : Aside0 (BT w1.heap.size (R ++ bl f0 ++ spT (row ++ [wv])) w12) := ⟨ht12⟩; have HB12 : Aside0 (Below w.heap.size w w12) := ⟨HB11.out.trans (below_le hb12 (by have := HZ.out; omega))⟩; have HK12 := Aside0.mk (hk12 _ _ _ _ (by have := HLT.out; omega) (by decide) HK11.out); have HQ12 : Aside0 (QD w12 W6.heap.size (ad3.add y.toNat) f0 (.slice (some ad3) f3.length c3) wv) := ⟨(Lib.cell_of_heap HK12.out 0).trans rfl, (Lib.cell_of_heap HK12.out 3).trans rfl, (hb12.cell (p := ad3.add y.toNat) (by rw [add_block]; have h9 := HB3.out; have h8 := HZ.out; omega)).trans HQ11.out.2.2⟩; clear ht12 hb12 hk12) | (refine wp_append_own _ _ _ 53 rfl W9.heap.size 3 i0 (.int .i64 0) 1 8 Tryd.underlying53 hi hi0 hi1 hi2 rfl (by decide) v10 row.length (row.map (Value.int .i64)) rfl (HO10.out.alloc (.cells #[.int .i64 wv] 3)) ⟨w10.heap.size, 0, none⟩ 1 1 [.int .i64 wv] rfl rfl ?c1 ?c2 ?c3 ?c4 ?c5 ?_; (case c1 => intro j u hj; (match j, hj with | 0, hj => simp at hj; subst hj; simp [Addr.add])); (case c2 => intro u hu; simp at hu; subst hu; rfl); (case c3 => unfold maxLen; have := hlenr.2; omega); (case c4 => have := hlenr.2; omega); (case c5 => have h9 := HN10.out; simp; omega); intro v11 w11 ho11 hg11 _; have HB11 : Aside0 (Below w.heap.size w w11) := ⟨(below_alloc HB10.out (.cells #[.int .i64 wv] 3)).grown hg11 (by have h9 := (below_alloc HB10.out (.cells #[.int .i64 wv] 3)).size; omega) (fun k hk => by have h9 := (((HO10.out.alloc (.cells #[.int .i64 wv] 3))).lt k hk).1; have h8 := HB9.out.size; omega)⟩; have HT11 : Aside0 (BT w1.heap.size R w11) := ⟨bldU_grown (bldU_below HT10.out (below_alloc (Below.refl _ _) _)) hg11 (own_ty (HO10.out.alloc (.cells #[.int .i64 wv] 3)) HLT9.out)⟩; have HQ11 : Aside0 (QD w11 W6.heap.size (ad3.add y.toNat) f0 (.slice (some ad3) f3.length c3) wv) := ⟨(HQ10.out.on (below_alloc (Below.refl _ _) _)).grown hg11 (own_ge HO10.out HLN.out) (own_ge HO10.out (by rw [add_block]; have h9 := HB3.out; have h8 := HB9.out.size; omega))⟩; have HK11 := Aside0.mk ((hg11.block W6.heap.size (by have h9 := HLN.out; have h8 := HN10.out; simp; omega) (own_ge HO10.out HLN.out)).trans ((Lib.alloc_old w10 _ W6.heap.size (by have h9 := HLN.out; have h8 := HN10.out; omega)).trans HK10.out)); obtain ⟨g11, cap11, rfl, hg0, hty11, hrd11⟩ := own_read ho11; have HTY11 := Aside0.mk hty11; have HRD11 := Aside0.mk hrd11; have HG11 := Aside0.mk hg0; clear hg11 ho11 hty11 hrd11 hg0) | (refine wp_append_own _ _ _ 53 rfl W9.heap.size 3 i0 (.int .i64 0) 1 8 Tryd.underlying53 hi hi0 hi1 hi2 rfl (by decide) v10 row.length (row.map (Value.int .i64)) rfl HO10.out ⟨W9.heap.size, 0, none⟩ 1 1 [.int .i64 wv] rfl rfl ?c1 ?c2 ?c3 ?c4 ?c5 ?_; (case c1 => intro j u hj; (match j, hj with | 0, hj => simp at hj; subst hj; simpa [Addr.add] using HA10.out)); (case c2 => intro u hu; simp at hu; subst hu; rfl); (case c3 => unfold maxLen; have := hlenr.2; omega); (case c4 => have := hlenr.2; omega); (case c5 => have h9 := HN10.out; omega); intro v11 w11 ho11 hg11 _; have HB11 : Aside0 (Below w.heap.size w w11) := ⟨(HB10.out).grown hg11 (by have h9 := (HB10.out).size; omega) (fun k hk => by have h9 := ((HO10.out).lt k hk).1; have h8 := HB9.out.size; omega)⟩; have HT11 : Aside0 (BT w1.heap.size R w11) := ⟨bldU_grown (HT10.out) hg11 (own_ty HO10.out HLT9.out)⟩; have HQ11 : Aside0 (QD w11 W6.heap.size (ad3.add y.toNat) f0 (.slice (some ad3) f3.length c3) wv) := ⟨(HQ10.out).grown hg11 (own_ge HO10.out HLN.out) (own_ge HO10.out (by rw [add_block]; have h9 := HB3.out; have h8 := HB9.out.size; omega))⟩; have HK11 := Aside0.mk ((hg11.block W6.heap.size (by have h9 := HLN.out; have h8 := HN10.out; omega) (own_ge HO10.out HLN.out)).trans (HK10.out)); obtain ⟨g11, cap11, rfl, hg0, hty11, hrd11⟩ := own_read ho11; have HTY11 := Aside0.mk hty11; have HRD11 := Aside0.mk hrd11; have HG11 := Aside0.mk hg0; clear hg11 ho11 hty11 hrd11 hg0))
            go_wp2_with (first | (go_at_call 27; refine (wb_walk w1.heap.size (R ++ bl f0 ++ spT (row ++ [wv])) _ (.inr HT12.out) (by have h9 := spT_len (row ++ [wv]) HV9.out; have h8 := HL9.out; have h7 := hlenr.2; simp only [List.length_append, List.length_cons, List.length_nil, bl_len] at h9 ⊢; omega) (by have := HT12.out.lt; omega)).mono ?_; rintro e w13 ⟨rfl, ht13, hb13, hk13⟩))
            all_goals go_roundw
            all_goals first | (exact ⟨y + 1, rfl, by omega, by omega, ⟨by rw [HF2.out]; unfold rowT; simpa only [List.append_assoc] using ht13⟩, ⟨hk13 _ _ _ _ (by have := HLT.out; omega) (by decide) HK12.out⟩, ⟨HB12.out.trans (below_le hb13 (by have := HZ.out; omega))⟩⟩) | (simp [intOf]; omega)
          · have hx : y.toNat = f2.length := by omega
            rw [hx] at hR
            have HR9 : Aside0 (dataT (l.take (x + 1).toNat) = R) := ⟨by rw [HE2.out, hR]⟩
            clear hx hR
            go_wp2
            go_roundw
            case rel => exact ⟨x + 1, rfl, by omega, by omega, ⟨by rw [HR9.out]; exact .inr HT9.out⟩, HB9, ⟨HT9.out.lt⟩⟩
            case measure => simp [intOf]; omega
      · have hx : l.take x.toNat = l := List.take_of_length_le (by omega)
        rw [hx] at hT
        have HR9 : Aside0 (printD l = ba T) := ⟨by rw [HG.out, hT]⟩
        have HBS : Aside0 (w1.heap.size ≤ W6.heap.size) := ⟨by have := HS6.out; omega⟩
        clear hx hT
        go_wp2_with (first | (go_at_call 29; refine (Tryd.Builder_String_any w1.heap.size w1.heap.size T _ HT6.out HBS.out).mono ?_; rintro e w13 ⟨rfl, hb13⟩))
        go_ret
        exact ⟨by rw [HR9.out]; rfl, HB6.out.trans (below_le hb13 (by have := HZ.out; omega))⟩
  · have HG : Aside0 (printD l = ⟨#[]⟩) := ⟨by unfold printD; rw [if_neg h]⟩
    rw [show dataOKb l = false by simpa using h] at HD
    clear h hr hD hp
    go_enter Tryd.func9, Tryd.ntmps9
    go_wp2_with (first | (go_at_call 25; (with_reducible refine (HD.out _ (below_alloc HB.out _)).mono ?_); rintro e w1 ⟨rfl, hb1⟩))
    go_ret
    exact ⟨by rw [HG.out]; rfl, below_step (below_alloc HB.out _) hb1⟩
end Go.Proofs.YtjlglimikbfgmaaDoor.PT
namespace Go.Proofs.YtjlglimikbfgmaaDoor.P
open Go.RowKit Go.Proofs.YtjlglimikbfgmaaDoorW.PrintWords Go.Proofs.YtjlglimikbfgmaaDoorW.PrintLast Go.Proofs.YtjlglimikbfgmaaDoorW.PrintMore
attribute [local go_sem] max2_int min2_int max_two min_two max_three min_three max_four min_four
set_option linter.unusedVariables false
set_option linter.unusedSimpArgs false
def spec_l2Dec.f : Nat → Int → Option (ByteArray)
 | 0, _ => none
 | k + 1, a0 => if a0 = (-9223372036854775808) then (some (⟨#[45, 57, 50, 50, 51, 51, 55, 50, 48, 51, 54, 56, 53, 52, 55, 55, 53, 56, 48, 56]⟩ : ByteArray)) else (if a0 < 0 then ((spec_l2Dec.f k (wrap64 (-a0))).bind fun t137 => (if 1 + t137.size ≤ 9223372036854775807 then (some ((⟨#[45]⟩ : ByteArray) ++ t137)) else (none))) else (if a0 < 10 then (if 0 ≤ a0 then (if a0 ≤ (wrap64 (a0 + 1)) then (if (wrap64 (a0 + 1)) ≤ 10 then (some ((⟨#[48, 49, 50, 51, 52, 53, 54, 55, 56, 57]⟩ : ByteArray).extract (a0 : Int).toNat ((wrap64 (a0 + 1)) : Int).toNat)) else (none)) else (none)) else (none)) else ((spec_l2Dec.f k (wrap64 (Int.tdiv a0 10))).bind fun t138 => (if 0 ≤ (Int.tmod a0 10) then (if (Int.tmod a0 10) ≤ (wrap64 ((Int.tmod a0 10) + 1)) then (if (wrap64 ((Int.tmod a0 10) + 1)) ≤ 10 then (if t138.size + ((⟨#[48, 49, 50, 51, 52, 53, 54, 55, 56, 57]⟩ : ByteArray).extract ((Int.tmod a0 10) : Int).toNat ((wrap64 ((Int.tmod a0 10) + 1)) : Int).toNat).size ≤ 9223372036854775807 then (some (t138 ++ ((⟨#[48, 49, 50, 51, 52, 53, 54, 55, 56, 57]⟩ : ByteArray).extract ((Int.tmod a0 10) : Int).toNat ((wrap64 ((Int.tmod a0 10) + 1)) : Int).toNat))) else (none)) else (none)) else (none)) else (none)))))
theorem spec_l2Dec.mono_l : ∀ k, (∀ y0, LeO (spec_l2Dec.f k y0) (spec_l2Dec.f (k + 1) y0))
 | 0 => fun _ r h => by simp [spec_l2Dec.f] at h
 | k + 1 => by
  have ih0 := spec_l2Dec.mono_l k
  ·intro y0
   unfold spec_l2Dec.f
   repeat' first
   | (with_reducible exact ih0 _)
   | (with_reducible exact LeO.refl _)
   | (with_reducible exact LeO.none _)
   | (with_reducible refine LeO.ite ?_ ?_)
   | (with_reducible refine LeO.bind ?_ (fun _ => ?_))
   | exact ih0 _
   | exact LeO.none _
   | refine LeO.ite ?_ ?_
   | refine LeO.bind ?_ (fun _ => ?_)
theorem spec_l2Dec.mono : ∀ a0 k, LeO (spec_l2Dec.f k a0) (spec_l2Dec.f (k + 1) a0) := by
 intro a0 k
 have ih0 := spec_l2Dec.mono_l k
 exact ih0 a0
def spec_l2Dec.T7 : Bool × List (List Nat × List Nat) := (true, [([], []), ([0], [0]), ([1], [1]), ([], []), ([3], [3]), ([], []), ([5], [5]), ([6], [6]), ([4, 7], [4, 7]), ([2, 8], [2, 8]), ([9, 2, 0, 1, 2, 3, 4, 5, 6, 7, 8, 9], [9])])
def spec_l2Dec.B7 : List Nat := [0, 1, 3, 0, 8, 0, 32, 96, 248, 511, 1023]
theorem spec_l2Dec.tab7 : rtab .any (opsOf Tryd.f22 7) = spec_l2Dec.T7 := by kernel_rfl
theorem spec_l2Dec.bits7 : waitsOk spec_l2Dec.T7.2 spec_l2Dec.B7 = true := by kernel_rfl
set_option maxHeartbeats 8000000 in
set_option maxRecDepth 100000 in
theorem spec_l2Dec.calls (k : Nat) : ∀ (a0 : Int) (r : ByteArray) (w : World) (h : spec_l2Dec.f k a0 = some r),
  Calls Tryd.prog 22 #[.int .i64 a0] w fun e w' => e = .returned (.string r) ∧ Below w.heap.size w w' := by
 induction k using Nat.strongRecOn with
 | _ k ih =>
 intro a0 r w h
 cases k with
 | zero => exact absurd h (by simp [spec_l2Dec.f])
 | succ k =>
 simp only [spec_l2Dec.f] at h
 have HB := Aside0.mk (Below.refl w.heap.size w)
 have H : (if a0 = (-9223372036854775808) then (some (⟨#[45, 57, 50, 50, 51, 51, 55, 50, 48, 51, 54, 56, 53, 52, 55, 55, 53, 56, 48, 56]⟩ : ByteArray)) else (if a0 < 0 then ((spec_l2Dec.f k (wrap64 (-a0))).bind fun t137 => (if 1 + t137.size ≤ 9223372036854775807 then (some ((⟨#[45]⟩ : ByteArray) ++ t137)) else (none))) else (if a0 < 10 then (if 0 ≤ a0 then (if a0 ≤ (wrap64 (a0 + 1)) then (if (wrap64 (a0 + 1)) ≤ 10 then (some ((⟨#[48, 49, 50, 51, 52, 53, 54, 55, 56, 57]⟩ : ByteArray).extract (a0 : Int).toNat ((wrap64 (a0 + 1)) : Int).toNat)) else (none)) else (none)) else (none)) else ((spec_l2Dec.f k (wrap64 (Int.tdiv a0 10))).bind fun t138 => (if 0 ≤ (Int.tmod a0 10) then (if (Int.tmod a0 10) ≤ (wrap64 ((Int.tmod a0 10) + 1)) then (if (wrap64 ((Int.tmod a0 10) + 1)) ≤ 10 then (if t138.size + ((⟨#[48, 49, 50, 51, 52, 53, 54, 55, 56, 57]⟩ : ByteArray).extract ((Int.tmod a0 10) : Int).toNat ((wrap64 ((Int.tmod a0 10) + 1)) : Int).toNat).size ≤ 9223372036854775807 then (some (t138 ++ ((⟨#[48, 49, 50, 51, 52, 53, 54, 55, 56, 57]⟩ : ByteArray).extract ((Int.tmod a0 10) : Int).toNat ((wrap64 ((Int.tmod a0 10) + 1)) : Int).toNat))) else (none)) else (none)) else (none)) else (none)))))) = some r := h
 clear h
 by_cases c2 : a0 = (-9223372036854775808)
 ·rw [if_pos c2] at H
  have c2b0 : (a0 == (-9223372036854775808)) = true := beq_iff_eq.mpr c2
  have c2b1 : (a0 != (-9223372036854775808)) = false := bne_eq_false_iff_eq.mpr c2
  clear c2
  obtain rfl := Option.some.inj H
  go_enter Tryd.func22, Tryd.ntmps22
  go_wp2
  go_ret
  exact ⟨by first | rfl | (simp [errW_none, errW_some] <;> rfl) | (simp [*, errW_none, errW_some] <;> rfl), by repeat (first | (with_reducible first | exact HB.out | apply below_alloc | apply pw_below_drewN | apply below_drew1) | exact HB.out)⟩
 ·rw [if_neg c2] at H
  have c2b0 : (a0 == (-9223372036854775808)) = false := beq_eq_false_iff_ne.mpr c2
  have c2b1 : (a0 != (-9223372036854775808)) = true := bne_iff_ne.mpr c2
  by_cases c3 : a0 < 0
  ·rw [if_pos c3] at H
   have c3b0 : decide (a0 < 0) = true := decide_eq_true c3
   clear c3
   replace H := Option.bind_eq_some_iff.mp H
   obtain ⟨t137, A40, H⟩ := H
   replace H : (if 1 + t137.size ≤ 9223372036854775807 then (some ((⟨#[45]⟩ : ByteArray) ++ t137)) else (none)) = some r := H
   have A4 := Aside0.mk A40
   clear A40
   by_cases c5 : 1 + t137.size ≤ 9223372036854775807
   ·rw [if_pos c5] at H
    have c5b0 := eq_true c5
    have c5b1 : decide (1 + t137.size ≤ 9223372036854775807) = true := decide_eq_true c5
    try have c5b2 : (9223372036854775807 < 1 + t137.size) = False := eq_false (Nat.not_lt.2 c5)
    obtain rfl := Option.some.inj H
    go_enter Tryd.func22, Tryd.ntmps22
    go_wp2_with (first | ((with_reducible refine gate_callee (f := 22) rfl ?_); refine goesL_ (some 9) rfl rfl Tryd.func22 (by kernel_rfl) rfl #[.int .i64 (wrap64 (-a0))] rfl (by (try simp only [List.map_toArray, List.map_cons, List.map_nil]); first | done | rfl | (simp only [List.length_drop, List.length_take]; rfl)) ?_; (with_reducible refine (ih k (by omega) (wrap64 (-a0)) t137 _ A4.out).mono ?_); rintro e w6 ⟨rfl, hb⟩; refine ⟨_, rfl, ?_⟩; have n0_ := Aside0.mk (below_step (by repeat (first | (with_reducible first | exact HB.out | apply below_alloc | apply pw_below_drewN | apply below_drew1) | exact HB.out)) hb); clear HB; have HB := n0_; clear n0_; (try clear hb); (try clear hb2); (try clear hk); (try clear hi)))
    go_ret
    exact ⟨by first | rfl | (simp [errW_none, errW_some] <;> rfl) | (simp [*, errW_none, errW_some] <;> rfl), by repeat (first | (with_reducible first | exact HB.out | apply below_alloc | apply pw_below_drewN | apply below_drew1) | exact HB.out)⟩
   ·rw [if_neg c5] at H
    exact absurd H (by simp)
  ·rw [if_neg c3] at H
   have c3b0 : decide (a0 < 0) = false := decide_eq_false c3
   clear c3
   by_cases c7 : a0 < 10
   ·rw [if_pos c7] at H
    have c7b0 : decide (a0 < 10) = true := decide_eq_true c7
    clear c7
    by_cases c8 : 0 ≤ a0
    ·rw [if_pos c8] at H
     have c8b0 := eq_true c8
     have c8b1 : decide (0 ≤ a0) = true := decide_eq_true c8
     clear c8
     by_cases c9 : a0 ≤ (wrap64 (a0 + 1))
     ·rw [if_pos c9] at H
      have c9b0 := eq_true c9
      have c9b1 : decide (a0 ≤ (wrap64 (a0 + 1))) = true := decide_eq_true c9
      by_cases c10 : (wrap64 (a0 + 1)) ≤ 10
      ·rw [if_pos c10] at H
       have c10b0 := eq_true c10
       have c10b1 : decide ((wrap64 (a0 + 1)) ≤ 10) = true := decide_eq_true c10
       obtain rfl := Option.some.inj H
       go_enter Tryd.func22, Tryd.ntmps22
       go_wp2
       go_ret
       exact ⟨by first | rfl | (simp [errW_none, errW_some] <;> rfl) | (simp [*, errW_none, errW_some] <;> rfl), by repeat (first | (with_reducible first | exact HB.out | apply below_alloc | apply pw_below_drewN | apply below_drew1) | exact HB.out)⟩
      ·rw [if_neg c10] at H
       exact absurd H (by simp)
     ·rw [if_neg c9] at H
      exact absurd H (by simp)
    ·rw [if_neg c8] at H
     exact absurd H (by simp)
   ·rw [if_neg c7] at H
    have c7b0 : decide (a0 < 10) = false := decide_eq_false c7
    clear c7
    replace H := Option.bind_eq_some_iff.mp H
    obtain ⟨t138, A110, H⟩ := H
    replace H : (if 0 ≤ (Int.tmod a0 10) then (if (Int.tmod a0 10) ≤ (wrap64 ((Int.tmod a0 10) + 1)) then (if (wrap64 ((Int.tmod a0 10) + 1)) ≤ 10 then (if t138.size + ((⟨#[48, 49, 50, 51, 52, 53, 54, 55, 56, 57]⟩ : ByteArray).extract ((Int.tmod a0 10) : Int).toNat ((wrap64 ((Int.tmod a0 10) + 1)) : Int).toNat).size ≤ 9223372036854775807 then (some (t138 ++ ((⟨#[48, 49, 50, 51, 52, 53, 54, 55, 56, 57]⟩ : ByteArray).extract ((Int.tmod a0 10) : Int).toNat ((wrap64 ((Int.tmod a0 10) + 1)) : Int).toNat))) else (none)) else (none)) else (none)) else (none)) = some r := H
    have A11 := Aside0.mk A110
    clear A110
    obtain ⟨ji12, hji12⟩ : ∃ j_ : Int, (Int.tmod a0 10) = j_ := ⟨_, rfl⟩
    replace H : (if 0 ≤ (ji12) then (if (ji12) ≤ (wrap64 ((ji12) + 1)) then (if (wrap64 ((ji12) + 1)) ≤ 10 then (if t138.size + ((⟨#[48, 49, 50, 51, 52, 53, 54, 55, 56, 57]⟩ : ByteArray).extract ((ji12) : Int).toNat ((wrap64 ((ji12) + 1)) : Int).toNat).size ≤ 9223372036854775807 then (some (t138 ++ ((⟨#[48, 49, 50, 51, 52, 53, 54, 55, 56, 57]⟩ : ByteArray).extract ((ji12) : Int).toNat ((wrap64 ((ji12) + 1)) : Int).toNat))) else (none)) else (none)) else (none)) else (none)) = some r := by first | (rw [hji12] at H; exact H) | (simp only [hji12] at H ⊢; exact H)
    (try rw [hji12] at A11)
    by_cases c13 : 0 ≤ (ji12)
    ·rw [if_pos c13] at H
     have c13b0 := eq_true c13
     have c13b1 : decide (0 ≤ (ji12)) = true := decide_eq_true c13
     clear c13
     by_cases c14 : (ji12) ≤ (wrap64 ((ji12) + 1))
     ·rw [if_pos c14] at H
      have c14b0 := eq_true c14
      have c14b1 : decide ((ji12) ≤ (wrap64 ((ji12) + 1))) = true := decide_eq_true c14
      by_cases c15 : (wrap64 ((ji12) + 1)) ≤ 10
      ·rw [if_pos c15] at H
       have c15b0 := eq_true c15
       have c15b1 : decide ((wrap64 ((ji12) + 1)) ≤ 10) = true := decide_eq_true c15
       by_cases c16 : t138.size + ((⟨#[48, 49, 50, 51, 52, 53, 54, 55, 56, 57]⟩ : ByteArray).extract ((ji12) : Int).toNat ((wrap64 ((ji12) + 1)) : Int).toNat).size ≤ 9223372036854775807
       ·rw [if_pos c16] at H
        have c16b0 := eq_true c16
        have c16b1 : decide (t138.size + ((⟨#[48, 49, 50, 51, 52, 53, 54, 55, 56, 57]⟩ : ByteArray).extract ((ji12) : Int).toNat ((wrap64 ((ji12) + 1)) : Int).toNat).size ≤ 9223372036854775807) = true := decide_eq_true c16
        try have c16b2 : (9223372036854775807 < t138.size + ((⟨#[48, 49, 50, 51, 52, 53, 54, 55, 56, 57]⟩ : ByteArray).extract ((ji12) : Int).toNat ((wrap64 ((ji12) + 1)) : Int).toNat).size) = False := eq_false (Nat.not_lt.2 c16)
        obtain rfl := Option.some.inj H
        go_enter Tryd.func22, Tryd.ntmps22
        try go_wp2
        have n0_ := Aside0.mk (below_drew1 HB.out)
        clear HB
        have HB := n0_
        clear n0_
        refine start_ (n := 11) (S := fun w' => True) (ds := []) #[false, false, false, false, false, false, false, false, false, false, false] (by kernel_rfl) rfl rfl trivial (fun hHeld => ?_); refine with_tabW spec_l2Dec.tab7 spec_l2Dec.bits7 (fun HT_ HW_ => ?_)
        generalize w.drew = w17 at HB hHeld ⊢
        refine pure_ (i := 0) (N := some 17) (v := ?_) (a' := ?_) #[true, false, false, false, false, false, false, false, false, false, false] rfl rfl (any_of HT_.out (by kernel_rfl)) (fun _ _ _ h => h) (Or.inl ⟨by rfl, ?_⟩) ?_ ?_
        rotate_left
        ·intro w'
         go_simp
         first | (with_reducible rfl) | (rw [if_neg (by have hz10 : (⟨#[48, 49, 50, 51, 52, 53, 54, 55, 56, 57]⟩ : ByteArray).size = 10 := rfl; simp only [ByteArray.size_extract] at c16; omega)])
        rotate_left
        ·simp only [Act.put, List.setIfInBounds_toArray, List.set_cons_zero, List.set_cons_succ, i64_w, i32_w]
         rfl
        refine pure_ (i := 1) (N := some 18) (v := ?_) (a' := ?_) #[true, true, false, false, false, false, false, false, false, false, false] rfl rfl (any_of HT_.out (by kernel_rfl)) (fun _ _ _ h => h) (Or.inl ⟨by rfl, ?_⟩) ?_ ?_
        rotate_left
        ·intro w'
         go_simp
         first | (with_reducible rfl) | (rw [if_neg (by have hz10 : (⟨#[48, 49, 50, 51, 52, 53, 54, 55, 56, 57]⟩ : ByteArray).size = 10 := rfl; simp only [ByteArray.size_extract] at c16; omega)])
        rotate_left
        ·simp only [Act.put, List.setIfInBounds_toArray, List.set_cons_zero, List.set_cons_succ, i64_w, i32_w]
         rfl
        refine pure_ (i := 3) (N := some 20) (v := ?_) (a' := ?_) #[true, true, false, true, false, false, false, false, false, false, false] rfl rfl (any_of HT_.out (by kernel_rfl)) (fun _ _ _ h => h) (Or.inl ⟨by rfl, ?_⟩) ?_ ?_
        rotate_left
        ·intro w'
         go_simp
         first | (with_reducible rfl) | (rw [if_neg (by have hz10 : (⟨#[48, 49, 50, 51, 52, 53, 54, 55, 56, 57]⟩ : ByteArray).size = 10 := rfl; simp only [ByteArray.size_extract] at c16; omega)])
        rotate_left
        ·simp only [Act.put, List.setIfInBounds_toArray, List.set_cons_zero, List.set_cons_succ, i64_w, i32_w]
         rfl
        refine pure_ (i := 4) (N := some 21) (v := ?_) (a' := ?_) #[true, true, false, true, true, false, false, false, false, false, false] rfl rfl (any_of HT_.out (by kernel_rfl)) (fun _ _ _ h => h) (Or.inl ⟨by rfl, ?_⟩) ?_ ?_
        rotate_left
        ·intro w'
         go_simp
         first | (with_reducible rfl) | (rw [if_neg (by have hz10 : (⟨#[48, 49, 50, 51, 52, 53, 54, 55, 56, 57]⟩ : ByteArray).size = 10 := rfl; simp only [ByteArray.size_extract] at c16; omega)])
        rotate_left
        ·simp only [Act.put, List.setIfInBounds_toArray, List.set_cons_zero, List.set_cons_succ, i64_w, i32_w]
         rfl
        refine pure_ (i := 5) (N := some 22) (v := ?_) (a' := ?_) #[true, true, false, true, true, true, false, false, false, false, false] rfl rfl (any_of HT_.out (by kernel_rfl)) (fun _ _ _ h => h) (Or.inl ⟨by rfl, ?_⟩) ?_ ?_
        rotate_left
        ·intro w'
         go_simp
         first | (with_reducible rfl) | (rw [if_neg (by have hz10 : (⟨#[48, 49, 50, 51, 52, 53, 54, 55, 56, 57]⟩ : ByteArray).size = 10 := rfl; simp only [ByteArray.size_extract] at c16; omega)])
        rotate_left
        ·simp only [Act.put, List.setIfInBounds_toArray, List.set_cons_zero, List.set_cons_succ, i64_w, i32_w]
         rfl
        refine pure_ (i := 6) (N := some 23) (v := ?_) (a' := ?_) #[true, true, false, true, true, true, true, false, false, false, false] rfl rfl (any_of HT_.out (by kernel_rfl)) (fun _ _ _ h => h) (Or.inl ⟨by rfl, ?_⟩) ?_ ?_
        rotate_left
        ·intro w'
         go_simp
         first | (with_reducible rfl) | (rw [if_neg (by have hz10 : (⟨#[48, 49, 50, 51, 52, 53, 54, 55, 56, 57]⟩ : ByteArray).size = 10 := rfl; simp only [ByteArray.size_extract] at c16; omega)])
        rotate_left
        ·simp only [Act.put, List.setIfInBounds_toArray, List.set_cons_zero, List.set_cons_succ, i64_w, i32_w]
         rfl
        refine pure_ (i := 7) (N := some 24) (v := ?_) (a' := ?_) #[true, true, false, true, true, true, true, true, false, false, false] rfl rfl (any_of HT_.out (by kernel_rfl)) (fun _ _ _ h => h) (Or.inl ⟨by rfl, ?_⟩) ?_ ?_
        rotate_left
        ·intro w'
         go_simp
         first | (with_reducible rfl) | (rw [if_neg (by have hz10 : (⟨#[48, 49, 50, 51, 52, 53, 54, 55, 56, 57]⟩ : ByteArray).size = 10 := rfl; simp only [ByteArray.size_extract] at c16; omega)])
        rotate_left
        ·simp only [Act.put, List.setIfInBounds_toArray, List.set_cons_zero, List.set_cons_succ, i64_w, i32_w]
         rfl
        refine pure_ (i := 8) (N := some 25) (v := ?_) (a' := ?_) #[true, true, false, true, true, true, true, true, true, false, false] rfl rfl (any_of HT_.out (by kernel_rfl)) (fun _ _ _ h => h) (Or.inl ⟨by rfl, ?_⟩) ?_ ?_
        rotate_left
        ·intro w'
         go_simp
         first | (with_reducible rfl) | (rw [if_neg (by have hz10 : (⟨#[48, 49, 50, 51, 52, 53, 54, 55, 56, 57]⟩ : ByteArray).size = 10 := rfl; simp only [ByteArray.size_extract] at c16; omega)])
        rotate_left
        ·simp only [Act.put, List.setIfInBounds_toArray, List.set_cons_zero, List.set_cons_succ, i64_w, i32_w]
         rfl
        refine one_ (i := 2) (N := some 19) #[true, true, true, true, true, true, true, true, true, false, false] rfl rfl (one_of HT_.out (by kernel_rfl)) (by decide) (fun K hK => ?_)
        refine goes_ Tryd.func22 (by kernel_rfl) rfl #[.int .i64 (wrap64 (Int.tdiv a0 10))] (by rfl) rfl rfl (by (try simp only [List.map_toArray, List.map_cons, List.map_nil]); first | done | rfl | (simp only [List.length_drop, List.length_take]; rfl)) ?_
        with_reducible refine (ih k (by omega) (wrap64 (Int.tdiv a0 10)) t138 _ A11.out).mono ?_
        rintro e w18 ⟨rfl, hb⟩
        refine ⟨_, rfl, ?_⟩
        have n0_ := Aside0.mk (below_step (by repeat (first | (with_reducible first | exact HB.out | apply below_alloc | apply pw_below_drewN | apply below_drew1) | exact HB.out)) hb)
        clear HB
        have HB := n0_
        clear n0_
        (try clear hb)
        (try clear hb2)
        (try clear hk)
        (try clear hi)
        refine hK.out _ _ trivial (fun hHeld => ?_)
        clear hK K
        refine norm_ (a' := ?_) ?_ ?_
        rotate_left
        ·show Act.put _ (some 19) _ = _
         simp only [Act.put, List.setIfInBounds_toArray, List.set_cons_zero, List.set_cons_succ, i64_w, i32_w]
         rfl
        refine pure_ (i := 9) (N := some 26) (v := ?_) (a' := ?_) #[true, true, true, true, true, true, true, true, true, true, false] rfl rfl (any_of HT_.out (by kernel_rfl)) (fun _ _ _ h => h) (Or.inl ⟨by rfl, ?_⟩) ?_ ?_
        rotate_left
        ·intro w'
         go_simp
         first | (with_reducible rfl) | (rw [if_neg (by have hz10 : (⟨#[48, 49, 50, 51, 52, 53, 54, 55, 56, 57]⟩ : ByteArray).size = 10 := rfl; simp only [ByteArray.size_extract] at c16; omega)])
        rotate_left
        ·simp only [Act.put, List.setIfInBounds_toArray, List.set_cons_zero, List.set_cons_succ, i64_w, i32_w]
         rfl
        refine pure_ (i := 10) (N := some 2) (v := ?_) (a' := ?_) #[true, true, true, true, true, true, true, true, true, true, true] rfl rfl (any_of HT_.out (by kernel_rfl)) (fun _ _ _ h => h) (Or.inl ⟨by rfl, ?_⟩) ?_ ?_
        rotate_left
        ·intro w'
         go_simp
         first | (with_reducible rfl) | (rw [if_neg (by have hz10 : (⟨#[48, 49, 50, 51, 52, 53, 54, 55, 56, 57]⟩ : ByteArray).size = 10 := rfl; simp only [ByteArray.size_extract] at c16; omega)])
        rotate_left
        ·simp only [Act.put, List.setIfInBounds_toArray, List.set_cons_zero, List.set_cons_succ, i64_w, i32_w]
         rfl
        refine done_ (done_of HT_.out (by kernel_rfl)) ?_
        try go_wp2
        go_ret
        exact ⟨by first | rfl | (simp [errW_none, errW_some] <;> rfl) | (simp only [← hji12]; first | rfl | (simp [errW_none, errW_some] <;> rfl)) | (simp [*, errW_none, errW_some] <;> rfl), by repeat (first | (with_reducible first | exact HB.out | apply below_alloc | apply pw_below_drewN | apply below_drew1) | exact HB.out)⟩
       ·rw [if_neg c16] at H
        exact absurd H (by simp)
      ·rw [if_neg c15] at H
       exact absurd H (by simp)
     ·rw [if_neg c14] at H
      exact absurd H (by simp)
    ·rw [if_neg c13] at H
     exact absurd H (by simp)
end Go.Proofs.YtjlglimikbfgmaaDoor.P
namespace Go.Proofs.YtjlglimikbfgmaaDoor.P
open Go.RowKit Go.Proofs.YtjlglimikbfgmaaDoorW.PrintWords Go.Proofs.YtjlglimikbfgmaaDoorW.PrintLast Go.Proofs.YtjlglimikbfgmaaDoorW.PrintMore
attribute [local go_sem] max2_int min2_int max_two min_two max_three min_three max_four min_four
set_option linter.unusedVariables false
set_option linter.unusedSimpArgs false
def spec_l3Join.l0 : Nat → ByteArray → List ByteArray → Int → Int → Option (ByteArray)
 | 0, _, _, _, _ => none
 | k + 1, x3, x6, x7, x8 => if x8 < x7 then (if 0 ≤ x8 then (if x8 < (x6.length : Int) then (if x8 > 0 then (if x3.size + 2 ≤ 9223372036854775807 then (if (x3 ++ (⟨#[44, 32]⟩ : ByteArray)).size + (rdOf ByteArray.empty x6 x8).size ≤ 9223372036854775807 then (spec_l3Join.l0 k ((x3 ++ (⟨#[44, 32]⟩ : ByteArray)) ++ (rdOf ByteArray.empty x6 x8)) x6 x7 (wrap64 (x8 + 1))) else (none)) else (none)) else (if x3.size + (rdOf ByteArray.empty x6 x8).size ≤ 9223372036854775807 then (spec_l3Join.l0 k (x3 ++ (rdOf ByteArray.empty x6 x8)) x6 x7 (wrap64 (x8 + 1))) else (none))) else (none)) else (none)) else (some x3)
def spec_l3Join.f (k : Nat) (l0 : List ByteArray) : Option (ByteArray) := spec_l3Join.l0 k (⟨#[]⟩ : ByteArray) l0 (l0.length : Int) 0
theorem spec_l3Join.mono_l : ∀ k, (∀ y0 y1 y2 y3, LeO (spec_l3Join.l0 k y0 y1 y2 y3) (spec_l3Join.l0 (k + 1) y0 y1 y2 y3))
 | 0 => fun _ _ _ _ r h => by simp [spec_l3Join.l0] at h
 | k + 1 => by
  have ih0 := spec_l3Join.mono_l k
  ·intro y0 y1 y2 y3
   unfold spec_l3Join.l0
   repeat' first
   | (with_reducible exact ih0 _ _ _ _)
   | (with_reducible exact LeO.refl _)
   | (with_reducible exact LeO.none _)
   | (with_reducible refine LeO.ite ?_ ?_)
   | (with_reducible refine LeO.bind ?_ (fun _ => ?_))
   | exact ih0 _ _ _ _
   | exact LeO.none _
   | refine LeO.ite ?_ ?_
   | refine LeO.bind ?_ (fun _ => ?_)
theorem spec_l3Join.mono : ∀ a0 k, LeO (spec_l3Join.f k a0) (spec_l3Join.f (k + 1) a0) := by
 intro a0 k
 have ih0 := spec_l3Join.mono_l k
 unfold spec_l3Join.f
 repeat' first
   | (with_reducible exact ih0 _ _ _ _)
   | (with_reducible exact LeO.refl _)
   | (with_reducible exact LeO.none _)
   | (with_reducible refine LeO.ite ?_ ?_)
   | (with_reducible refine LeO.bind ?_ (fun _ => ?_))
   | exact ih0 _ _ _ _
   | exact LeO.none _
   | refine LeO.ite ?_ ?_
   | refine LeO.bind ?_ (fun _ => ?_)
set_option maxHeartbeats 8000000 in
set_option maxRecDepth 100000 in
theorem spec_l3Join.calls (k : Nat) (A0 : Option Addr) (c0 : Nat) (l0 : List ByteArray) (r : ByteArray) (w : World) (hr0 : Kd.C Kd.string w A0 l0.length l0) (hc0 : l0.length ≤ c0) (h : spec_l3Join.f k l0 = some r) :
  Calls Tryd.prog 34 #[.slice A0 l0.length c0] w fun e w' => e = .returned (.string r) ∧ Drawn0 w w' := by
 have HR0 := Aside0.mk hr0
 have HC0 := Aside0.mk hc0
 clear hr0 hc0
 have H : (spec_l3Join.l0 k (⟨#[]⟩ : ByteArray) l0 (l0.length : Int) 0) = some r := h
 clear h
 have H' := Aside0.mk H
 clear H
 go_enter Tryd.func34, Tryd.ntmps34
 go_wp2
 go_loopg [3, 8] k (fun kq v3 v8 w' => ∃ (x3_1 : ByteArray) (x8_1 : Int), v3 = .string x3_1 ∧ v8 = .int .i64 x8_1 ∧ Aside0 (spec_l3Join.l0 kq x3_1 l0 (l0.length : Int) x8_1 = some r) ∧ Aside0 (kq ≤ k) ∧ Drawn0 w w')
 case atStart => exact ⟨((⟨#[]⟩ : ByteArray)), (0), (by first | rfl | (simp; done) | (simp [*]; done)), (by first | rfl | (simp; done) | (simp [*]; done)), H', ⟨Nat.le_refl _⟩, by repeat (first | exact Drawn0.refl _ | apply Drawn0.step)⟩
 case round =>
  clear H'
  obtain ⟨x3_1, x8_1, rfl, rfl, HA, HK1, ⟨m1, rfl⟩⟩ := hrel
  cases gk with
  | zero => exact absurd HA.out (by simp [spec_l3Join.l0])
  | succ k1 =>
   have H := HA.out
   clear HA
   simp only [spec_l3Join.l0] at H
   by_cases c2 : x8_1 < (l0.length : Int)
   ·rw [if_pos c2] at H
    have c2b0 : decide (x8_1 < (l0.length : Int)) = true := decide_eq_true c2
    clear c2
    by_cases c3 : 0 ≤ x8_1
    ·rw [if_pos c3] at H
     have c3b0 : decide (0 ≤ x8_1) = true := decide_eq_true c3
     clear c3
     by_cases c4 : x8_1 < (l0.length : Int)
     ·rw [if_pos c4] at H
      have c4b0 : decide (x8_1 < (l0.length : Int)) = true := decide_eq_true c4
      clear c4
      by_cases c5 : x8_1 > 0
      ·rw [if_pos c5] at H
       have c5b0 : decide (0 < x8_1) = true := decide_eq_true c5
       clear c5
       by_cases c6 : x3_1.size + 2 ≤ 9223372036854775807
       ·rw [if_pos c6] at H
        have c6b0 := eq_true c6
        have c6b1 : decide (x3_1.size + 2 ≤ 9223372036854775807) = true := decide_eq_true c6
        try have c6b2 : (9223372036854775807 < x3_1.size + 2) = False := eq_false (Nat.not_lt.2 c6)
        by_cases c7 : (x3_1 ++ (⟨#[44, 32]⟩ : ByteArray)).size + (rdOf ByteArray.empty l0 x8_1).size ≤ 9223372036854775807
        ·rw [if_pos c7] at H
         have c7b0 := eq_true c7
         have c7b1 : decide ((x3_1 ++ (⟨#[44, 32]⟩ : ByteArray)).size + (rdOf ByteArray.empty l0 x8_1).size ≤ 9223372036854775807) = true := decide_eq_true c7
         try have c7b2 : (9223372036854775807 < (x3_1 ++ (⟨#[44, 32]⟩ : ByteArray)).size + (rdOf ByteArray.empty l0 x8_1).size) = False := eq_false (Nat.not_lt.2 c7)
         try have c7b9 : (9223372036854775807 < x3_1.size + 2 + (rdOf ByteArray.empty l0 x8_1).size) = False := eq_false (Nat.not_lt.2 (by have h_ := c7; simp only [ByteArray.size_append] at h_; exact h_))
         have H' := Aside0.mk H
         clear H
         have p286 : 0 ≤ (x8_1 : Int) := of_decide_eq_true (by first | (with_reducible assumption) | assumption)
         have q286 : x8_1 < (l0.length : Int) := of_decide_eq_true (by first | (with_reducible assumption) | assumption)
         obtain ⟨ad286, e286, hx286_0⟩ := Kd.at_string HR0.out x8_1 p286 q286
         cases e286
         replace p286 := eq_true p286
         replace q286 := eq_true q286
         go_wp2
         go_roundg k1
         case measure => have := HK1.out; omega
         case rel => exact ⟨((x3_1 ++ (⟨#[44, 32]⟩ : ByteArray)) ++ (rdOf ByteArray.empty l0 x8_1)), (wrap64 (x8_1 + 1)), (by first | rfl | (simp; done) | (simp [*]; done)), (by first | rfl | (simp; done) | (simp [*]; done)), H', ⟨by have := HK1.out; omega⟩, by repeat (first | exact Drawn0.refl _ | apply Drawn0.step)⟩
        ·rw [if_neg c7] at H
         exact absurd H (by simp)
       ·rw [if_neg c6] at H
        exact absurd H (by simp)
      ·rw [if_neg c5] at H
       have c5b0 : decide (0 < x8_1) = false := decide_eq_false c5
       clear c5
       by_cases c8 : x3_1.size + (rdOf ByteArray.empty l0 x8_1).size ≤ 9223372036854775807
       ·rw [if_pos c8] at H
        have c8b0 := eq_true c8
        have c8b1 : decide (x3_1.size + (rdOf ByteArray.empty l0 x8_1).size ≤ 9223372036854775807) = true := decide_eq_true c8
        try have c8b2 : (9223372036854775807 < x3_1.size + (rdOf ByteArray.empty l0 x8_1).size) = False := eq_false (Nat.not_lt.2 c8)
        have H' := Aside0.mk H
        clear H
        have p286 : 0 ≤ (x8_1 : Int) := of_decide_eq_true (by first | (with_reducible assumption) | assumption)
        have q286 : x8_1 < (l0.length : Int) := of_decide_eq_true (by first | (with_reducible assumption) | assumption)
        obtain ⟨ad286, e286, hx286_0⟩ := Kd.at_string HR0.out x8_1 p286 q286
        cases e286
        replace p286 := eq_true p286
        replace q286 := eq_true q286
        go_wp2
        go_roundg k1
        case measure => have := HK1.out; omega
        case rel => exact ⟨(x3_1 ++ (rdOf ByteArray.empty l0 x8_1)), (wrap64 (x8_1 + 1)), (by first | rfl | (simp; done) | (simp [*]; done)), (by first | rfl | (simp; done) | (simp [*]; done)), H', ⟨by have := HK1.out; omega⟩, by repeat (first | exact Drawn0.refl _ | apply Drawn0.step)⟩
       ·rw [if_neg c8] at H
        exact absurd H (by simp)
     ·rw [if_neg c4] at H
      exact absurd H (by simp)
    ·rw [if_neg c3] at H
     exact absurd H (by simp)
   ·rw [if_neg c2] at H
    have c2b0 : decide (x8_1 < (l0.length : Int)) = false := decide_eq_false c2
    clear c2
    obtain rfl := Option.some.inj H
    go_wp2
    go_ret
    exact ⟨by first | rfl | (simp; done) | (simp [*]; done), by repeat (first | exact Drawn0.refl _ | apply Drawn0.step)⟩
end Go.Proofs.YtjlglimikbfgmaaDoor.P
namespace Go.Proofs.YtjlglimikbfgmaaDoor.PT
open Go.RowKit Go.Proofs.YtjlglimikbfgmaaDoor.P Go.Proofs.YtjlglimikbfgmaaDoorW.PrintWords Go.Proofs.YtjlglimikbfgmaaDoorW.PrintLast Go.Proofs.YtjlglimikbfgmaaDoor.EvKit
set_option linter.unusedSimpArgs false
set_option linter.unusedVariables false
theorem digit_at : ∀ n : Nat, n < 10 → (⟨#[48, 49, 50, 51, 52, 53, 54, 55, 56, 57]⟩ : ByteArray).extract n (n + 1) = ba [UInt8.ofNat (48 + n)] := by
  intro n hn
  rw [Lib.extract_eq]
  have : n = 0 ∨ n = 1 ∨ n = 2 ∨ n = 3 ∨ n = 4 ∨ n = 5 ∨ n = 6 ∨ n = 7 ∨ n = 8 ∨ n = 9 := by omega
  rcases this with rfl | rfl | rfl | rfl | rfl | rfl | rfl | rfl | rfl | rfl <;> rfl
theorem decDigits_len (n : Nat) (h : n ≤ 9223372036854775807) : (Lib.decDigits n).length ≤ 21 := by
  have h1 := Lib.itoa_length_le (n : Int) (by omega) (by omega)
  unfold Lib.itoa at h1
  rw [if_neg (by omega)] at h1
  simpa using h1
theorem l2Dec_nat : ∀ (m n : Nat), n ≤ m → n ≤ 9223372036854775806 → Ev (fun k => spec_l2Dec.f k (n : Int)) (ba (Lib.decDigits n))
  | m, n, hm, hn => by
    by_cases h : n < 10
    · refine Ev.succ ?_
      simp only [spec_l2Dec.f, w64n hn]
      refine Ev.neg (by omega) (Ev.neg (by omega) (Ev.pos (by omega) (Ev.pos (by omega) (Ev.pos (by omega) (Ev.pos (by omega) (Ev.to (Ev.now _) ?_))))))
      rw [Lib.decDigits, dif_pos h]
      exact digit_at n h
    · have e1 : wrap64 (Int.tdiv (n : Int) 10) = ((n / 10 : Nat) : Int) := by
        rw [Int.tdiv_eq_ediv_of_nonneg (by omega), w64 (by omega) (by omega)]; omega
      have e2 : Int.tmod (n : Int) 10 = ((n % 10 : Nat) : Int) := by
        rw [Int.tmod_eq_emod_of_nonneg (by omega)]; omega
      have hlt : n % 10 < 10 := Nat.mod_lt _ (by omega)
      have hl := decDigits_len (n / 10) (by omega)
      cases m with
      | zero => omega
      | succ m =>
        refine Ev.succ ?_
        simp only [spec_l2Dec.f, e1, e2, w64n (show n % 10 ≤ 9223372036854775806 by omega)]
        refine Ev.neg (by omega) (Ev.neg (by omega) (Ev.neg (by omega) (Ev.bind (l2Dec_nat m (n / 10) (by omega) (by omega)) ?_)))
        have e3 : (⟨#[48, 49, 50, 51, 52, 53, 54, 55, 56, 57]⟩ : ByteArray).extract (((n % 10 : Nat) : Int)).toNat ((((n % 10) + 1 : Nat) : Int)).toNat = ba [UInt8.ofNat (48 + n % 10)] := digit_at _ hlt
        rw [e3, ba_size, ba_size, ba_append]
        refine Ev.pos (by omega) (Ev.pos (by omega) (Ev.pos (by omega) (Ev.pos (by simp; omega) (Ev.to (Ev.now _) ?_))))
        conv => rhs; rw [Lib.decDigits, dif_neg h]
theorem l2Dec_ev (n : Int) (h0 : -9223372036854775806 ≤ n) (h1 : n ≤ 9223372036854775806) : Ev (fun k => spec_l2Dec.f k n) (ba (Lib.itoa n)) := by
  unfold Lib.itoa
  by_cases c : n < 0
  · rw [if_pos c]
    refine Ev.succ ?_
    have e1 : wrap64 (-n) = ((n.natAbs : Nat) : Int) := by rw [w64 (by omega) (by omega)]; omega
    have hl := decDigits_len n.natAbs (by omega)
    simp only [spec_l2Dec.f, e1]
    refine Ev.neg (by omega) (Ev.pos c (Ev.bind (l2Dec_nat _ n.natAbs (Nat.le_refl _) (by omega)) ?_))
    rw [ba_size, show (⟨#[45]⟩ : ByteArray) = ba [45] from rfl, ba_append]
    exact Ev.pos (by omega) (Ev.now _)
  · rw [if_neg c]
    have h2 := l2Dec_nat _ n.toNat (Nat.le_refl _) (by omega)
    rwa [show ((n.toNat : Nat) : Int) = n by omega] at h2
theorem l3Join_ev (l : List ByteArray) (hl : l.length ≤ 1048576) (hs : ∀ x, x ∈ l → x.size ≤ 33554464) : Ev (fun k => spec_l3Join.f k l) (ba (jn (l.map bl))) := by
  unfold spec_l3Join.f
  have key : ∀ d i, i + d = l.length → Ev (fun k => spec_l3Join.l0 k (ba (jn ((l.take i).map bl))) l (l.length : Int) (i : Int)) (ba (jn (l.map bl))) := by
    intro d
    induction d with
    | zero =>
      intro i hi
      have e : i = l.length := by omega
      subst e
      rw [List.take_length]
      refine Ev.succ ?_
      simp only [spec_l3Join.l0]
      exact Ev.neg (by omega) (Ev.now _)
    | succ d ih =>
      intro i hi
      have hlt : i < l.length := by omega
      have ih := ih (i + 1) (by omega)
      have hx := hs _ (List.getElem_mem hlt)
      have hb := jn_take_len bl l 33554464 (fun t ht => by rw [bl_len]; exact hs t ht) i (by omega)
      rw [jn_take bl l i hlt] at ih
      have hL : (bl l[i]).length ≤ 33554464 := by rw [bl_len]; exact hx
      have ex : l[i] = ba (bl l[i]) := (ba_bl _).symm
      refine Ev.succ ?_
      simp only [spec_l3Join.l0, rdOf_at hlt, w64n (show i ≤ 9223372036854775806 by omega)]
      refine Ev.pos (by omega) (Ev.pos (by omega) (Ev.pos (by omega) ?_))
      rw [show (⟨#[44, 32]⟩ : ByteArray) = ba [44, 32] from rfl, ex]
      simp only [ba_append, ba_size, bl_ba]
      by_cases h0 : i = 0
      · rw [if_pos h0, List.nil_append] at ih
        exact Ev.neg (by omega) (Ev.pos (by omega) ih)
      · rw [if_neg h0] at ih
        refine Ev.pos (by omega) (Ev.pos (by omega) (Ev.pos (by simp only [List.length_append, List.length_cons, List.length_nil]; omega) ?_))
        rw [List.append_assoc]
        exact ih
  exact key l.length 0 (by omega)
end Go.Proofs.YtjlglimikbfgmaaDoor.PT
namespace Go.Proofs.YtjlglimikbfgmaaDoor.P
open Go.RowKit Go.Proofs.YtjlglimikbfgmaaDoorW.PrintWords Go.Proofs.YtjlglimikbfgmaaDoorW.PrintLast Go.Proofs.YtjlglimikbfgmaaDoorW.PrintMore
attribute [local go_sem] max2_int min2_int max_two min_two max_three min_three max_four min_four
set_option linter.unusedVariables false
set_option linter.unusedSimpArgs false
def spec_l2RowText.l0 : Nat → ByteArray → List Int → Int → Int → Option (ByteArray)
 | 0, _, _, _, _ => none
 | k + 1, x3, x6, x7, x8 => if x8 < x7 then (if 0 ≤ x8 then (if x8 < (x6.length : Int) then (if x8 > 0 then (if x3.size + 1 ≤ 9223372036854775807 then ((spec_l2Dec.f k (rd x6 x8)).bind fun t140 => (if (x3 ++ (⟨#[32]⟩ : ByteArray)).size + t140.size ≤ 9223372036854775807 then (spec_l2RowText.l0 k ((x3 ++ (⟨#[32]⟩ : ByteArray)) ++ t140) x6 x7 (wrap64 (x8 + 1))) else (none))) else (none)) else ((spec_l2Dec.f k (rd x6 x8)).bind fun t141 => (if x3.size + t141.size ≤ 9223372036854775807 then (spec_l2RowText.l0 k (x3 ++ t141) x6 x7 (wrap64 (x8 + 1))) else (none)))) else (none)) else (none)) else (some x3)
def spec_l2RowText.f (k : Nat) (l0 : List Int) : Option (ByteArray) := spec_l2RowText.l0 k (⟨#[]⟩ : ByteArray) l0 (l0.length : Int) 0
theorem spec_l2RowText.mono_l : ∀ k, (∀ y0 y1 y2 y3, LeO (spec_l2RowText.l0 k y0 y1 y2 y3) (spec_l2RowText.l0 (k + 1) y0 y1 y2 y3))
 | 0 => fun _ _ _ _ r h => by simp [spec_l2RowText.l0] at h
 | k + 1 => by
  have ih0 := spec_l2RowText.mono_l k
  ·intro y0 y1 y2 y3
   unfold spec_l2RowText.l0
   repeat' first
   | (with_reducible exact ih0 _ _ _ _)
   | (with_reducible exact spec_l2Dec.mono _ _)
   | (with_reducible exact LeO.refl _)
   | (with_reducible exact LeO.none _)
   | (with_reducible refine LeO.ite ?_ ?_)
   | (with_reducible refine LeO.bind ?_ (fun _ => ?_))
   | exact ih0 _ _ _ _
   | exact spec_l2Dec.mono _ _
   | exact LeO.none _
   | refine LeO.ite ?_ ?_
   | refine LeO.bind ?_ (fun _ => ?_)
theorem spec_l2RowText.mono : ∀ a0 k, LeO (spec_l2RowText.f k a0) (spec_l2RowText.f (k + 1) a0) := by
 intro a0 k
 have ih0 := spec_l2RowText.mono_l k
 unfold spec_l2RowText.f
 repeat' first
   | (with_reducible exact ih0 _ _ _ _)
   | (with_reducible exact spec_l2Dec.mono _ _)
   | (with_reducible exact LeO.refl _)
   | (with_reducible exact LeO.none _)
   | (with_reducible refine LeO.ite ?_ ?_)
   | (with_reducible refine LeO.bind ?_ (fun _ => ?_))
   | exact ih0 _ _ _ _
   | exact spec_l2Dec.mono _ _
   | exact LeO.none _
   | refine LeO.ite ?_ ?_
   | refine LeO.bind ?_ (fun _ => ?_)
set_option maxHeartbeats 8000000 in
set_option maxRecDepth 100000 in
theorem spec_l2RowText.calls (k : Nat) (A0 : Option Addr) (c0 : Nat) (l0 : List Int) (r : ByteArray) (w : World) (hr0 : Kd.C (Kd.int .i64) w A0 l0.length l0) (hc0 : l0.length ≤ c0) (h : spec_l2RowText.f k l0 = some r) :
  Calls Tryd.prog 23 #[.slice A0 l0.length c0] w fun e w' => e = .returned (.string r) ∧ Below w.heap.size w w' := by
 have HR0 := Aside0.mk hr0
 have HC0 := Aside0.mk hc0
 clear hr0 hc0
 have HB := Aside0.mk (Below.refl w.heap.size w)
 have H : (spec_l2RowText.l0 k (⟨#[]⟩ : ByteArray) l0 (l0.length : Int) 0) = some r := h
 clear h
 have H' := Aside0.mk H
 clear H
 go_enter Tryd.func23, Tryd.ntmps23
 go_wp2
 go_loopg [3, 8] k (fun kq v3 v8 w' => ∃ (x3_1 : ByteArray) (x8_1 : Int), v3 = .string x3_1 ∧ v8 = .int .i64 x8_1 ∧ Aside0 (spec_l2RowText.l0 kq x3_1 l0 (l0.length : Int) x8_1 = some r) ∧ Aside0 (kq ≤ k) ∧ Aside0 (Below w.heap.size w w'))
 case atStart => exact ⟨((⟨#[]⟩ : ByteArray)), (0), (by first | rfl | (simp; done) | (simp [*]; done)), (by first | rfl | (simp; done) | (simp [*]; done)), H', ⟨Nat.le_refl _⟩, ⟨by repeat (first | (with_reducible first | exact HB.out | apply below_alloc | apply pw_below_drewN | apply below_drew1) | exact HB.out)⟩⟩
 case round =>
  clear H'
  obtain ⟨x3_1, x8_1, rfl, rfl, HA, HK1, HB⟩ := hrel
  cases gk with
  | zero => exact absurd HA.out (by simp [spec_l2RowText.l0])
  | succ k1 =>
   have H := HA.out
   clear HA
   simp only [spec_l2RowText.l0] at H
   by_cases c2 : x8_1 < (l0.length : Int)
   ·rw [if_pos c2] at H
    have c2b0 : decide (x8_1 < (l0.length : Int)) = true := decide_eq_true c2
    clear c2
    by_cases c3 : 0 ≤ x8_1
    ·rw [if_pos c3] at H
     have c3b0 : decide (0 ≤ x8_1) = true := decide_eq_true c3
     clear c3
     by_cases c4 : x8_1 < (l0.length : Int)
     ·rw [if_pos c4] at H
      have c4b0 : decide (x8_1 < (l0.length : Int)) = true := decide_eq_true c4
      clear c4
      by_cases c5 : x8_1 > 0
      ·rw [if_pos c5] at H
       have c5b0 : decide (0 < x8_1) = true := decide_eq_true c5
       clear c5
       by_cases c6 : x3_1.size + 1 ≤ 9223372036854775807
       ·rw [if_pos c6] at H
        have c6b0 := eq_true c6
        have c6b1 : decide (x3_1.size + 1 ≤ 9223372036854775807) = true := decide_eq_true c6
        try have c6b2 : (9223372036854775807 < x3_1.size + 1) = False := eq_false (Nat.not_lt.2 c6)
        replace H := Option.bind_eq_some_iff.mp H
        obtain ⟨t140, A70, H⟩ := H
        replace H : (if (x3_1 ++ (⟨#[32]⟩ : ByteArray)).size + t140.size ≤ 9223372036854775807 then (spec_l2RowText.l0 k1 ((x3_1 ++ (⟨#[32]⟩ : ByteArray)) ++ t140) l0 (l0.length : Int) (wrap64 (x8_1 + 1))) else (none)) = some r := H
        have A7 := Aside0.mk A70
        clear A70
        by_cases c8 : (x3_1 ++ (⟨#[32]⟩ : ByteArray)).size + t140.size ≤ 9223372036854775807
        ·rw [if_pos c8] at H
         have c8b0 := eq_true c8
         have c8b1 : decide ((x3_1 ++ (⟨#[32]⟩ : ByteArray)).size + t140.size ≤ 9223372036854775807) = true := decide_eq_true c8
         try have c8b2 : (9223372036854775807 < (x3_1 ++ (⟨#[32]⟩ : ByteArray)).size + t140.size) = False := eq_false (Nat.not_lt.2 c8)
         try have c8b9 : (9223372036854775807 < x3_1.size + 1 + t140.size) = False := eq_false (Nat.not_lt.2 (by have h_ := c8; simp only [ByteArray.size_append] at h_; exact h_))
         have H' := Aside0.mk H
         clear H
         have p139 : 0 ≤ (x8_1 : Int) := of_decide_eq_true (by first | (with_reducible assumption) | assumption)
         have q139 : x8_1 < (l0.length : Int) := of_decide_eq_true (by first | (with_reducible assumption) | assumption)
         obtain ⟨ad139, e139, hx139_0⟩ := Kd.at_int HR0.out x8_1 p139 q139
         cases e139
         replace hx139_0 := (HB.out.cell (World.block_lt_of_cell? w _ hx139_0)).trans hx139_0
         replace p139 := eq_true p139
         replace q139 := eq_true q139
         go_wp2_with (first | ((with_reducible refine gate_callee (f := 22) rfl ?_); refine goesL_ (some 19) rfl rfl Tryd.func22 (by kernel_rfl) rfl #[.int .i64 (rd l0 x8_1)] rfl (by (try simp only [List.map_toArray, List.map_cons, List.map_nil]); first | done | rfl | (simp only [List.length_drop, List.length_take]; rfl)) ?_; (with_reducible refine (spec_l2Dec.calls k1 (rd l0 x8_1) t140 _ A7.out).mono ?_); rintro e w9 ⟨rfl, hb⟩; refine ⟨_, rfl, ?_⟩; have n0_ := Aside0.mk (below_step (by repeat (first | (with_reducible first | exact HB.out | apply below_alloc | apply pw_below_drewN | apply below_drew1) | exact HB.out)) hb); clear HB; have HB := n0_; clear n0_; (try clear hb); (try clear hb2); (try clear hk); (try clear hi)))
         go_roundg k1
         case measure => have := HK1.out; omega
         case rel => exact ⟨((x3_1 ++ (⟨#[32]⟩ : ByteArray)) ++ t140), (wrap64 (x8_1 + 1)), (by first | rfl | (simp; done) | (simp [*]; done)), (by first | rfl | (simp; done) | (simp [*]; done)), H', ⟨by have := HK1.out; omega⟩, ⟨by repeat (first | (with_reducible first | exact HB.out | apply below_alloc | apply pw_below_drewN | apply below_drew1) | exact HB.out)⟩⟩
        ·rw [if_neg c8] at H
         exact absurd H (by simp)
       ·rw [if_neg c6] at H
        exact absurd H (by simp)
      ·rw [if_neg c5] at H
       have c5b0 : decide (0 < x8_1) = false := decide_eq_false c5
       clear c5
       replace H := Option.bind_eq_some_iff.mp H
       obtain ⟨t141, A100, H⟩ := H
       replace H : (if x3_1.size + t141.size ≤ 9223372036854775807 then (spec_l2RowText.l0 k1 (x3_1 ++ t141) l0 (l0.length : Int) (wrap64 (x8_1 + 1))) else (none)) = some r := H
       have A10 := Aside0.mk A100
       clear A100
       by_cases c11 : x3_1.size + t141.size ≤ 9223372036854775807
       ·rw [if_pos c11] at H
        have c11b0 := eq_true c11
        have c11b1 : decide (x3_1.size + t141.size ≤ 9223372036854775807) = true := decide_eq_true c11
        try have c11b2 : (9223372036854775807 < x3_1.size + t141.size) = False := eq_false (Nat.not_lt.2 c11)
        have H' := Aside0.mk H
        clear H
        have p139 : 0 ≤ (x8_1 : Int) := of_decide_eq_true (by first | (with_reducible assumption) | assumption)
        have q139 : x8_1 < (l0.length : Int) := of_decide_eq_true (by first | (with_reducible assumption) | assumption)
        obtain ⟨ad139, e139, hx139_0⟩ := Kd.at_int HR0.out x8_1 p139 q139
        cases e139
        replace hx139_0 := (HB.out.cell (World.block_lt_of_cell? w _ hx139_0)).trans hx139_0
        replace p139 := eq_true p139
        replace q139 := eq_true q139
        go_wp2_with (first | ((with_reducible refine gate_callee (f := 22) rfl ?_); refine goesL_ (some 19) rfl rfl Tryd.func22 (by kernel_rfl) rfl #[.int .i64 (rd l0 x8_1)] rfl (by (try simp only [List.map_toArray, List.map_cons, List.map_nil]); first | done | rfl | (simp only [List.length_drop, List.length_take]; rfl)) ?_; (with_reducible refine (spec_l2Dec.calls k1 (rd l0 x8_1) t141 _ A10.out).mono ?_); rintro e w12 ⟨rfl, hb⟩; refine ⟨_, rfl, ?_⟩; have n0_ := Aside0.mk (below_step (by repeat (first | (with_reducible first | exact HB.out | apply below_alloc | apply pw_below_drewN | apply below_drew1) | exact HB.out)) hb); clear HB; have HB := n0_; clear n0_; (try clear hb); (try clear hb2); (try clear hk); (try clear hi)))
        go_roundg k1
        case measure => have := HK1.out; omega
        case rel => exact ⟨(x3_1 ++ t141), (wrap64 (x8_1 + 1)), (by first | rfl | (simp; done) | (simp [*]; done)), (by first | rfl | (simp; done) | (simp [*]; done)), H', ⟨by have := HK1.out; omega⟩, ⟨by repeat (first | (with_reducible first | exact HB.out | apply below_alloc | apply pw_below_drewN | apply below_drew1) | exact HB.out)⟩⟩
       ·rw [if_neg c11] at H
        exact absurd H (by simp)
     ·rw [if_neg c4] at H
      exact absurd H (by simp)
    ·rw [if_neg c3] at H
     exact absurd H (by simp)
   ·rw [if_neg c2] at H
    have c2b0 : decide (x8_1 < (l0.length : Int)) = false := decide_eq_false c2
    clear c2
    obtain rfl := Option.some.inj H
    go_wp2
    go_ret
    exact ⟨by first | rfl | (simp [errW_none, errW_some] <;> rfl) | (simp [*, errW_none, errW_some] <;> rfl), by repeat (first | (with_reducible first | exact HB.out | apply below_alloc | apply pw_below_drewN | apply below_drew1) | exact HB.out)⟩
end Go.Proofs.YtjlglimikbfgmaaDoor.P
namespace Go.Proofs.YtjlglimikbfgmaaDoor.PT
open Go.RowKit Go.Proofs.YtjlglimikbfgmaaDoor.P Go.Proofs.YtjlglimikbfgmaaDoorW.PrintWords Go.Proofs.YtjlglimikbfgmaaDoorW.PrintLast Go.Proofs.YtjlglimikbfgmaaDoor.EvKit
set_option linter.unusedSimpArgs false
set_option linter.unusedVariables false
def rtT (l : List Int) : List UInt8 := (spT l).drop 1
theorem rtT_nil : rtT [] = [] := rfl
theorem spT_pos {l : List Int} (h : 0 < l.length) : spT l = [32] ++ rtT l := by
  cases l with
  | nil => simp at h
  | cons x r => simp [rtT, spT]
theorem rtT_take (l : List Int) (i : Nat) (h : i < l.length) : rtT (l.take (i + 1)) = rtT (l.take i) ++ ((if i = 0 then [] else [32]) ++ Lib.itoa l[i]) := by
  unfold rtT
  rw [spT_take l i h]
  by_cases h0 : i = 0
  · subst h0; simp [spT_nil]
  · rw [if_neg h0]
    have : 0 < (l.take i).length := by rw [List.length_take]; omega
    rw [spT_pos this]
    simp
theorem rtT_len {l : List Int} (h : ∀ v, v ∈ l → Sm v) (i : Nat) : (rtT (l.take i)).length ≤ i * 22 := by
  have h1 := spT_len (l.take i) (fun v hv => by have := h v (List.mem_of_mem_take hv); unfold Sm at this; unfold I64; omega)
  rw [List.length_take] at h1
  unfold rtT
  rw [List.length_drop]
  omega
theorem l2RowText_ev (l : List Int) (hl : l.length ≤ 3) (hs : ∀ v, v ∈ l → Sm v) : Ev (fun k => spec_l2RowText.f k l) (ba (rtT l)) := by
  unfold spec_l2RowText.f
  have key : ∀ d i, i + d = l.length → Ev (fun k => spec_l2RowText.l0 k (ba (rtT (l.take i))) l (l.length : Int) (i : Int)) (ba (rtT l)) := by
    intro d
    induction d with
    | zero =>
      intro i hi
      have e : i = l.length := by omega
      subst e
      rw [List.take_length]
      refine Ev.succ ?_
      simp only [spec_l2RowText.l0]
      exact Ev.neg (by omega) (Ev.now _)
    | succ d ih =>
      intro i hi
      have hlt : i < l.length := by omega
      have ih := ih (i + 1) (by omega)
      have hx := hs _ (List.getElem_mem hlt)
      have hb := rtT_len hs i
      unfold Sm at hx
      have hI := Lib.itoa_length_le l[i] (by omega) (by omega)
      have hD := l2Dec_ev l[i] (by omega) (by omega)
      rw [rtT_take l i hlt] at ih
      refine Ev.succ ?_
      simp only [spec_l2RowText.l0, rd_at hlt, w64n (show i ≤ 9223372036854775806 by omega)]
      refine Ev.pos (by omega) (Ev.pos (by omega) (Ev.pos (by omega) ?_))
      rw [show (⟨#[32]⟩ : ByteArray) = ba [32] from rfl]
      simp only [ba_append, ba_size]
      by_cases h0 : i = 0
      · rw [if_pos h0, List.nil_append] at ih
        refine Ev.neg (by omega) (Ev.bind hD ?_)
        simp only [ba_append, ba_size]
        exact Ev.pos (by omega) ih
      · rw [if_neg h0] at ih
        refine Ev.pos (by omega) (Ev.pos (by omega) (Ev.bind hD ?_))
        simp only [ba_append, ba_size, List.length_append, List.length_cons, List.length_nil]
        refine Ev.pos (by omega) ?_
        rw [List.append_assoc]
        exact ih
  exact key l.length 0 (by omega)
end Go.Proofs.YtjlglimikbfgmaaDoor.PT
namespace Go.Proofs.YtjlglimikbfgmaaDoor.PT
open Go.RowKit Go.Proofs.YtjlglimikbfgmaaDoor.P Go.Proofs.YtjlglimikbfgmaaDoorW.PrintWords Go.Proofs.YtjlglimikbfgmaaDoorW.PrintLast Go.Proofs.YtjlglimikbfgmaaDoor.EvKit
set_option linter.unusedVariables false
set_option linter.unusedSimpArgs false
def OT (B : Nat) (t : List UInt8) (v : Value) (W : World) : Prop := W.ownsRow B 5 1 v t.length (Lib.byteCells t)
theorem wp_append_str {P : Program} (w : World) {o : Oper} {a : Act} {K : Act → World → Prop} {Q : Exit → Act → World → Prop} (s x : Operand) (t u : TypeId)
    (ho : o.op = .call { callee := .builtin .append, args := #[s, x], argTypes := #[t, u] })
    (base : Nat) (e : TypeId) (i : TypeInfo) (ht : P.underlying t = some (.slice e)) (hu : P.underlying u = some .string) (hi : P.info? e = some i) (hz : i.zero = some (.int .u8 0)) (hsize : i.size = 1) (hby : i.bytes = 1)
    (v : Value) (n : Nat) (xs : List Value) (hs : a.eval s = v) (hown : w.ownsRow base e 1 v n xs) (y : ByteArray) (hx : a.eval x = .string y) (h63 : n + y.size ≤ maxLen) (hbytes : n + y.size ≤ 140737488355328) (hbase : base ≤ w.heap.size)
    (h : ∀ v' w', w'.ownsRow base e 1 v' (n + y.size) (xs ++ Lib.strCells y) → w.grownBy w' v.ownBlock → K (a.put o.dst v') w') : o.wp P a w K Q := by
  obtain ⟨v', w', hr, h2, h3, h4⟩ := Lib.run_append_own_string (P := P) w base t u o.type e i ht hu hi hz hsize hby v n xs hown y h63 hbytes hbase
  unfold Oper.wp execOp
  simp only [ho, resolve, invoke, builtin, Sem.run_bind, Sem.run_pure, Result.andThen_ok, List.map_toArray, List.map_cons, List.map_nil, hs, hx, hr]
  exact h v' w' h2 h3
theorem ot_str {B : Nat} {t : List UInt8} {y : ByteArray} {v : Value} {W : World} (h : W.ownsRow B 5 1 v (t.length + y.size) (Lib.byteCells t ++ Lib.strCells y)) : OT B (t ++ bl y) v W := by
  unfold OT
  rw [Lib.byteCells_append, List.length_append, bl_len]
  exact h
theorem ot_below {B : Nat} {t : List UInt8} {v : Value} {W W' : World} (h : OT B t v W) (hb : Below W.heap.size W W') : OT B t v W' := pw_own_below h hb
theorem ot_conv {B : Nat} {t : List UInt8} {v : Value} {W : World} (h : OT B t v W) : (convert 51 9 v).run Tryd.prog W = .ok (.string (ba t)) W := by
  rcases h.2 with ⟨rfl, h0⟩ | ⟨g, cap, cur, rfl, _⟩
  · have : t = [] := List.eq_nil_of_length_eq_zero h0
    subst this
    rw [run_convert_bytes_string W _ _ _ none 0 0 Tryd.underlying51 Tryd.underlying5 Tryd.underlying9]
    simp [Conv.bytesToString]
    rfl
  · refine run_convert_bytes_back W _ _ _ ⟨g, 0, none⟩ cap t Tryd.underlying51 Tryd.underlying5 Tryd.underlying9 (fun j hj => ?_)
    refine World.ownsRow.cells (g := g) h rfl j _ ?_
    unfold Lib.byteCells
    rw [List.getElem?_map, List.getElem?_eq_getElem hj]
    rfl
theorem ot_lt {B : Nat} {t : List UInt8} {v : Value} {W : World} (h : OT B t v W) {k : Nat} (hk : v.ownBlock = some k) : B ≤ k := (World.ownsRow.lt h k hk).1
theorem ot_ne {B : Nat} {t : List UInt8} {v : Value} {W : World} (h : OT B t v W) {k : Nat} {cs : Array Value} {T : TypeId} {fr : Nat × Nat} (hk : W.heap[k]? = some (.cells cs T fr)) (hT : T ≠ 5) : some k ≠ v.ownBlock := fun e => Lib.ownBlock_ne h hk hT e.symm
theorem ot_new (W : World) (B : Nat) (hB : B ≤ W.heap.size) : OT B [] (.slice (some ⟨W.heap.size, 0, none⟩) 0 0) (W.alloc (.cells #[] 5)) :=
  ⟨rfl, .inr ⟨W.heap.size, 0, #[], rfl, hB, at_new W _, Nat.le_refl _, Nat.zero_le _, by simp, by simp [Lib.byteCells]⟩⟩
set_option maxHeartbeats 8000000 in
set_option maxRecDepth 100000 in
theorem specPD_walk (A : Option Addr) (c : Nat) (l : List Rel) (w : World) (hr : Kd.C k55 w A l.length l) (hc : l.length ≤ c) (hD : ∃ k, spec_DataOK.f k l = some (dataOKb l)) :
    Calls Tryd.prog 7 #[.agg #[.slice A l.length c]] w fun e w' => e = .returned (.string (printD l)) ∧ Below w.heap.size w w' := by
  have hu1 := Tryd.underlying29
  have hu2 := Tryd.underlying55
  obtain ⟨kD, hD⟩ := hD
  have HB := Aside0.mk (Below.refl w.heap.size w)
  have HD : Aside0 (∀ W, Below w.heap.size w W → Calls Tryd.prog 21 #[.agg #[.slice A l.length c]] W fun e W' => e = .returned (.bool (dataOKb l)) ∧ Below W.heap.size W W') := ⟨fun W hW => spec_DataOK.calls kD A c l _ W (Kd.C_below hr hW) hc hD⟩
  by_cases h : dataOKb l = true
  · have HG : Aside0 (printD l = ba (dataT l)) := ⟨by unfold printD; rw [if_pos h]⟩
    have HR := Aside0.mk hr
    obtain ⟨h50, hS⟩ := data_parts h
    have HS0 := Aside0.mk hS
    rw [h] at HD
    clear h hD hr hS
    go_enter Tryd.func7, Tryd.ntmps7
    go_wp2_with (first | (go_at_call 21; (with_reducible refine (HD.out _ (below_alloc HB.out _)).mono ?_); rintro e w1 ⟨rfl, hb1⟩; have HB1 : Aside0 (Below w.heap.size w w1) := ⟨below_step (below_alloc HB.out _) hb1⟩; have q0 : w1.cell? ⟨w.heap.size, 0, none⟩ = some (.slice A l.length c) := (hb1.cell (p := ⟨w.heap.size, 0, none⟩) (by simp)).trans (by go_simp); have HZ : Aside0 (w.heap.size < w1.heap.size) := ⟨by have := hb1.size; simp at this; omega⟩; have hz := HZ.out; clear hb1))
    obtain ⟨i0, hi, hz0, hz1, hz2⟩ := info_parts info5
    go_loopw [15, 3] (fun i v wr => ∃ x : Int, i = .int .i64 x ∧ 0 ≤ x ∧ x ≤ (l.length : Int) ∧ Aside0 (OT w1.heap.size (dataT (l.take x.toNat)) v wr) ∧ Aside0 (Below w.heap.size w wr) ∧ Aside0 (w1.heap.size ≤ wr.heap.size)) (fun i _ _ => l.length - (intOf i).toNat)
    case atStart => exact ⟨0, rfl, by omega, by omega, ⟨ot_new w1 _ (Nat.le_refl _)⟩, ⟨below_alloc HB1.out _⟩, ⟨by simp⟩⟩
    case round =>
      clear HB1 q0 hz
      obtain ⟨x, rfl, h0, hle, HT6, HB6, HS6⟩ := hrel
      obtain ⟨W6, hW6⟩ : ∃ W6, W6 = wr := ⟨_, rfl⟩
      subst hW6
      obtain ⟨T, hT⟩ : ∃ T, T = dataT (l.take x.toNat) := ⟨_, rfl⟩
      have HL6 : Aside0 (T.length ≤ 20003000) := ⟨by
        have h5 := dataT_len HS0.out x.toNat (by omega)
        rw [hT]; omega⟩
      rw [← hT] at HT6
      obtain ⟨v, hv⟩ : ∃ v, v = u3 := ⟨_, rfl⟩
      subst hv
      by_cases hlt : x < (l.length : Int)
      · obtain ⟨ad, A2, c2, A3, c3, e, hx0, hx1, hx2, hx3, hl2, hi2, hl3, hi3⟩ := at_T55 HR.out x h0 hlt
        cases e
        have hn : x.toNat < l.length := by omega
        have hrd : rd_T55 l x = l[x.toNat] := by unfold rd_T55; simp [List.getD_eq_getElem?_getD, hn]
        have HE : Aside0 (dataT (l.take (x + 1).toNat) = T ++ relT (rd_T55 l x)) := ⟨by
          rw [hrd, show (x + 1).toNat = x.toNat + 1 by omega, dataT_take l x.toNat hn, hT]⟩
        have hA : RelS (rd_T55 l x) := by rw [hrd]; exact HS0.out _ (List.getElem_mem hn)
        clear hrd hT
        replace hx0 := (HB6.out.cell (World.block_lt_of_cell? w _ hx0)).trans hx0
        replace hx1 := (HB6.out.cell (World.block_lt_of_cell? w _ hx1)).trans hx1
        replace hx2 := (HB6.out.cell (World.block_lt_of_cell? w _ hx2)).trans hx2
        replace hx3 := (HB6.out.cell (World.block_lt_of_cell? w _ hx3)).trans hx3
        have HR2 := Aside0.mk hi2
        have HR3 := Aside0.mk hi3
        have hlen2 := hi2.2.1
        have hlen3 := hi3.2.1
        clear hi2 hi3
        generalize rd_T55 l x = q at *
        obtain ⟨f0, f1, f2, f3⟩ := q
        dsimp only at *
        have HA := Aside0.mk hA
        have hb0 := hA.nm
        have har := hA.ar
        dsimp only at hb0 har
        clear hA
        obtain ⟨Z, hZ⟩ : ∃ Z, Z = ba (Lib.itoa f1) := ⟨_, rfl⟩
        obtain ⟨kA, hkA⟩ := Ev.rounds (l2Dec_ev f1 (by omega) (by omega))
        rw [← hZ] at hkA
        have HkA := Aside0.mk hkA
        have hZs : Z.size ≤ 21 := by rw [hZ, ba_size]; exact Lib.itoa_length_le f1 (by omega) (by omega)
        have s1 : (9223372036854775807 < 4 + f0.size) = False := eq_false (by omega)
        have s2 : (9223372036854775807 < 4 + f0.size + 1) = False := eq_false (by omega)
        have s3 : (9223372036854775807 < 4 + f0.size + 1 + Z.size) = False := eq_false (by omega)
        have s4 : (9223372036854775807 < 4 + f0.size + 1 + Z.size + 1) = False := eq_false (by omega)
        have HY : Aside0 (⟨#[114, 101, 108, 32]⟩ ++ f0 ++ ⟨#[32]⟩ ++ Z ++ ⟨#[10]⟩ = ba (relHd ⟨f0, f1, f2, f3⟩)) := ⟨by
          refine bl_inj ?_
          rw [hZ]
          simp only [bl_append, bl_ba]
          unfold relHd spT
          simp [bl]⟩
        have HYs : Aside0 ((relHd ⟨f0, f1, f2, f3⟩).length ≤ 60) := ⟨relHd_len HA.out⟩
        clear hkA hZ har
        go_wp2
        go_region_held3 (fun w' => w'.cell? ⟨W6.heap.size, 0, none⟩ = some (.string f0) ∧ w'.cell? ⟨W6.heap.size, 1, none⟩ = some (.int .i64 f1) ∧ w'.cell? ⟨W6.heap.size, 2, none⟩ = some (.slice A2 f2.length c2) ∧ w'.cell? ⟨W6.heap.size, 3, none⟩ = some (.slice A3 f3.length c3)) (first | exact ⟨(Lib.cell_of_heap HK8.out 0).trans rfl, (Lib.cell_of_heap HK8.out 1).trans rfl, (Lib.cell_of_heap HK8.out 2).trans rfl, (Lib.cell_of_heap HK8.out 3).trans rfl⟩ | exact ⟨(Lib.cell_of_heap HK7.out 0).trans rfl, (Lib.cell_of_heap HK7.out 1).trans rfl, (Lib.cell_of_heap HK7.out 2).trans rfl, (Lib.cell_of_heap HK7.out 3).trans rfl⟩ | exact ⟨(Lib.cell_of_heap (at_new W6 (.cells #[.string f0, .int .i64 f1, .slice A2 f2.length c2, .slice A3 f3.length c3] 55)) 0).trans rfl, (Lib.cell_of_heap (at_new W6 (.cells #[.string f0, .int .i64 f1, .slice A2 f2.length c2, .slice A3 f3.length c3] 55)) 1).trans rfl, (Lib.cell_of_heap (at_new W6 (.cells #[.string f0, .int .i64 f1, .slice A2 f2.length c2, .slice A3 f3.length c3] 55)) 2).trans rfl, (Lib.cell_of_heap (at_new W6 (.cells #[.string f0, .int .i64 f1, .slice A2 f2.length c2, .slice A3 f3.length c3] 55)) 3).trans rfl⟩) (first | (go_at_call 22; refine (spec_l2Dec.calls kA f1 Z _ HkA.out).mono ?_; rintro e w7 ⟨rfl, hb7⟩; have HB7 : Aside0 (Below w.heap.size w w7) := ⟨below_step (below_drew1 (below_alloc HB6.out (.cells #[.string f0, .int .i64 f1, .slice A2 f2.length c2, .slice A3 f3.length c3] 55))) hb7⟩; have HX7 : Aside0 (Below W6.heap.size W6 w7) := ⟨below_step (below_drew1 (below_alloc (Below.refl _ _) (.cells #[.string f0, .int .i64 f1, .slice A2 f2.length c2, .slice A3 f3.length c3] 55))) hb7⟩; have HO7 : Aside0 (OT w1.heap.size T v w7) := ⟨ot_below HT6.out HX7.out⟩; have HK7 : Aside0 (w7.heap[W6.heap.size]? = some (.cells #[.string f0, .int .i64 f1, .slice A2 f2.length c2, .slice A3 f3.length c3] 55 (0, 0))) := ⟨(hb7.block W6.heap.size (by show _ < (W6.alloc _).heap.size; simp)).trans (at_new W6 (.cells #[.string f0, .int .i64 f1, .slice A2 f2.length c2, .slice A3 f3.length c3] 55))⟩; clear hb7) | (refine wp_append_str _ _ _ 51 9 rfl w1.heap.size 5 i0 Tryd.underlying51 Tryd.underlying9 hi hz0 hz1 hz2 v T.length (Lib.byteCells T) rfl HO7.out _ rfl ?c1 ?c2 ?c3 ?_; (case c1 => rw [HY.out, ba_size]; have := HYs.out; have := HL6.out; unfold maxLen; omega); (case c2 => rw [HY.out, ba_size]; have := HYs.out; have := HL6.out; omega); (case c3 => have := HX7.out.size; have := HS6.out; omega); intro v8 w8 ho8 hg8; have HO8 : Aside0 (OT w1.heap.size (T ++ relHd ⟨f0, f1, f2, f3⟩) v8 w8) := ⟨by have h9 := ot_str ho8; rw [bl_of HY.out] at h9; exact h9⟩; have HB8 : Aside0 (Below w.heap.size w w8) := ⟨HB7.out.grown hg8 HB7.out.size (fun k hk => by have h9 := ot_lt HO7.out hk; have h8 := HZ.out; omega)⟩; have HK8 := Aside0.mk ((hg8.block W6.heap.size (by have := (Array.getElem?_eq_some_iff.1 HK7.out).1; exact this) (ot_ne HO7.out HK7.out (by decide))).trans HK7.out); have HS8 : Aside0 (w1.heap.size ≤ w8.heap.size) := ⟨by have h9 := hg8.size; have h8 := HX7.out.size; have h7 := HS6.out; omega⟩; clear ho8 hg8))
        have p0 : w8.cell? ⟨W6.heap.size, 0, none⟩ = some (.string f0) := (Lib.cell_of_heap HK8.out 0).trans rfl
        have p2 : w8.cell? ⟨W6.heap.size, 2, none⟩ = some (.slice A2 f2.length c2) := (Lib.cell_of_heap HK8.out 2).trans rfl
        clear s1 s2 s3 s4
        have HLV : Aside0 ((T ++ relHd ⟨f0, f1, f2, f3⟩).length ≤ 20003060) := ⟨by have := HL6.out; have h9 := HYs.out; rw [List.length_append]; omega⟩
        have HE2 : Aside0 (dataT (l.take (x + 1).toNat) = T ++ relHd ⟨f0, f1, f2, f3⟩ ++ rowsT f0 f2 f3 f2.length) := ⟨by rw [HE.out]; unfold relT; simp only [List.append_assoc]⟩
        clear HY HYs HkA
        generalize T ++ relHd ⟨f0, f1, f2, f3⟩ = V at *
        go_wp2
        go_loopw [33, 3] (fun j v wi => ∃ y : Int, j = .int .i64 y ∧ 0 ≤ y ∧ y ≤ (f2.length : Int) ∧ Aside0 (OT w1.heap.size (V ++ rowsT f0 f2 f3 y.toNat) v wi) ∧ Aside0 (wi.heap[W6.heap.size]? = some (.cells #[.string f0, .int .i64 f1, .slice A2 f2.length c2, .slice A3 f3.length c3] 55 (0, 0))) ∧ Aside0 (Below w.heap.size w wi) ∧ Aside0 (w1.heap.size ≤ wi.heap.size)) (fun j _ _ => f2.length - (intOf j).toNat)
        case atStart => exact ⟨0, rfl, by omega, by omega, ⟨by simpa [rowsT_zero] using HO8.out⟩, HK8, HB8, HS8⟩
        case round =>
          clear HT6 HB6 HS6 HE p0 p2 hx0 hx1 hx2 hx3 HB7 HX7 HO7 HK7 HO8 HB8 HK8 HS8
          obtain ⟨y, rfl, h20, h2le, HT9, HK9, HB9, HS9⟩ := hrel
          obtain ⟨W9, hW9⟩ : ∃ W9, W9 = wr := ⟨_, rfl⟩
          subst hW9
          obtain ⟨v, hv⟩ : ∃ v, v = u3 := ⟨_, rfl⟩
          subst hv
          obtain ⟨R, hR⟩ : ∃ R, R = V ++ rowsT f0 f2 f3 y.toNat := ⟨_, rfl⟩
          have HL9 : Aside0 (R.length ≤ 20500000) := ⟨by
            have h5 := rows_len HA.out y.toNat (by dsimp only; omega)
            have h7 := HA.out.rows
            dsimp only at h5 h7
            have h6 := HLV.out
            rw [hR]; simp only [List.length_append]; omega⟩
          rw [← hR] at HT9
          by_cases hlt2 : y < (f2.length : Int)
          · have hws := HA.out.ws
            dsimp only at hws
            obtain ⟨ad2, A5, c5, e, hz0', hl5, hi5⟩ := at_L1 HR2.out y h20 hlt2
            cases e
            obtain ⟨ad3, e, hz3⟩ := Kd.at_int HR3.out y h20 (by omega)
            cases e
            have hn2 : y.toNat < f2.length := by omega
            have HF2 : Aside0 (V ++ rowsT f0 f2 f3 (y + 1).toNat = R ++ rowT f0 (rd_L1 f2 y) (rd f3 y)) := ⟨by
              rw [show (y + 1).toNat = y.toNat + 1 by omega, rowsT_succ, hR, List.append_assoc]; rfl⟩
            have hrl : rd_L1 f2 y = f2[y.toNat] := getD_mem f2 [] y.toNat hn2
            have hwl : rd f3 y = f3[y.toNat]'(by omega) := getD_mem f3 0 y.toNat (by omega)
            have hlenr : 1 ≤ (rd_L1 f2 y).length ∧ (rd_L1 f2 y).length ≤ 3 := by
              have h5 := HA.out.len y.toNat hn2
              have h6 := HA.out.ar
              dsimp only at h5 h6
              rw [hrl]; omega
            have hSr : ∀ v, v ∈ rd_L1 f2 y → Sm v := fun v hv => by rw [hrl] at hv; exact HA.out.vals2 _ (List.getElem_mem hn2) v hv
            have hSw : Sm (rd f3 y) := by rw [hwl]; exact HA.out.wv2 _ (List.getElem_mem _)
            have hy3 : y < (f3.length : Int) := by omega
            clear hrl hwl hR hws
            replace hz0' := (HB9.out.cell (World.block_lt_of_cell? w _ hz0')).trans hz0'
            have HB3 : Aside0 (ad3.block < w.heap.size) := ⟨by have := World.block_lt_of_cell? w _ hz3; rwa [add_block] at this⟩
            replace hz3 := (HB9.out.cell (World.block_lt_of_cell? w _ hz3)).trans hz3
            have HR5 := Aside0.mk hi5
            have hlen5 := hi5.2.1
            clear hi5
            generalize rd_L1 f2 y = row at *
            generalize rd f3 y = wv at *
            unfold Sm at hSw
            obtain ⟨X, hX⟩ : ∃ X, X = ba (rtT row) := ⟨_, rfl⟩
            obtain ⟨Z, hZ⟩ : ∃ Z, Z = ba (Lib.itoa wv) := ⟨_, rfl⟩
            obtain ⟨kR, hkR⟩ := Ev.rounds (l2RowText_ev row hlenr.2 hSr)
            obtain ⟨kW, hkW⟩ := Ev.rounds (l2Dec_ev wv (by omega) (by omega))
            rw [← hX] at hkR
            rw [← hZ] at hkW
            have HkR := Aside0.mk hkR
            have HkW := Aside0.mk hkW
            have hXs : X.size ≤ 66 := by
              rw [hX, ba_size]
              have h5 := rtT_len hSr row.length
              rw [List.take_length] at h5
              have := hlenr.2
              omega
            have hZs : Z.size ≤ 21 := by rw [hZ, ba_size]; exact Lib.itoa_length_le wv (by omega) (by omega)
            have s1 : (9223372036854775807 < f0.size + 1) = False := eq_false (by omega)
            have s2 : (9223372036854775807 < f0.size + 1 + X.size) = False := eq_false (by omega)
            have s3 : (9223372036854775807 < f0.size + 1 + X.size + 1) = False := eq_false (by omega)
            have s4 : (9223372036854775807 < f0.size + 1 + X.size + 1 + Z.size) = False := eq_false (by omega)
            have s5 : (9223372036854775807 < f0.size + 1 + X.size + 1 + Z.size + 1) = False := eq_false (by omega)
            have HY : Aside0 (f0 ++ ⟨#[32]⟩ ++ X ++ ⟨#[32]⟩ ++ Z ++ ⟨#[10]⟩ = ba (rowT f0 row wv)) := ⟨by
              refine bl_inj ?_
              rw [hX, hZ]
              simp only [bl_append, bl_ba]
              unfold rowT
              rw [spT_snoc, spT_pos (by omega)]
              simp [bl]⟩
            have HYs : Aside0 ((rowT f0 row wv).length ≤ 200) := ⟨by
              have h5 := HY.out
              have h6 := congrArg ByteArray.size h5
              simp only [ByteArray.size_append, ba_size] at h6
              have h7 : (⟨#[32]⟩ : ByteArray).size = 1 := rfl
              have h8 : (⟨#[10]⟩ : ByteArray).size = 1 := rfl
              omega⟩
            have HC9 := Aside0.mk hz3
            have HLK9 := Aside0.mk (Array.getElem?_eq_some_iff.1 HK9.out).1
            have p0 : W9.cell? ⟨W6.heap.size, 0, none⟩ = some (.string f0) := (Lib.cell_of_heap HK9.out 0).trans rfl
            clear hkR hkW hX hZ hSr hSw
            go_wp2
            go_region_held3 (fun w' => w'.cell? ⟨W6.heap.size, 0, none⟩ = some (.string f0) ∧ w'.cell? ⟨W6.heap.size, 3, none⟩ = some (.slice (some ad3) f3.length c3) ∧ w'.cell? (ad3.add y.toNat) = some (.int .i64 wv)) (first | exact ⟨(Lib.cell_of_heap HK12.out 0).trans rfl, (Lib.cell_of_heap HK12.out 3).trans rfl, HC12.out⟩ | exact ⟨(Lib.cell_of_heap HK11.out 0).trans rfl, (Lib.cell_of_heap HK11.out 3).trans rfl, HC11.out⟩ | exact ⟨(Lib.cell_of_heap HK10.out 0).trans rfl, (Lib.cell_of_heap HK10.out 3).trans rfl, HC10.out⟩ | exact ⟨(Lib.cell_of_heap HK9.out 0).trans rfl, (Lib.cell_of_heap HK9.out 3).trans rfl, HC9.out⟩) (first | (go_at_call 23; refine (spec_l2RowText.calls kR A5 c5 row X _ (Kd.C_below HR5.out (below_drew1 HB9.out)) hl5 HkR.out).mono ?_; rintro e w10 ⟨rfl, hb10⟩; have HB10 : Aside0 (Below w.heap.size w w10) := ⟨below_step (below_drew1 HB9.out) hb10⟩; have HX10 : Aside0 (Below W9.heap.size W9 w10) := ⟨below_step (below_drew1 (Below.refl _ _)) hb10⟩; have HK10 : Aside0 (w10.heap[W6.heap.size]? = some (.cells #[.string f0, .int .i64 f1, .slice (some ad2) f2.length c2, .slice (some ad3) f3.length c3] 55 (0, 0))) := ⟨(hb10.block W6.heap.size HLK9.out).trans HK9.out⟩; have HC10 : Aside0 (w10.cell? (ad3.add y.toNat) = some (.int .i64 wv)) := ⟨cell_onB HC9.out HX10.out⟩; clear hb10) | (go_at_call 22; refine (spec_l2Dec.calls kW wv Z _ HkW.out).mono ?_; rintro e w11 ⟨rfl, hb11⟩; have HB11 : Aside0 (Below w.heap.size w w11) := ⟨below_step HB10.out hb11⟩; have HX11 : Aside0 (Below W9.heap.size W9 w11) := ⟨below_step HX10.out hb11⟩; have HK11 : Aside0 (w11.heap[W6.heap.size]? = some (.cells #[.string f0, .int .i64 f1, .slice (some ad2) f2.length c2, .slice (some ad3) f3.length c3] 55 (0, 0))) := ⟨(hb11.block W6.heap.size (by have := (Array.getElem?_eq_some_iff.1 HK10.out).1; exact this)).trans HK10.out⟩; have HC11 : Aside0 (w11.cell? (ad3.add y.toNat) = some (.int .i64 wv)) := ⟨cell_onB HC9.out HX11.out⟩; have HO11 : Aside0 (OT w1.heap.size R v w11) := ⟨ot_below HT9.out HX11.out⟩; clear hb11) | (refine wp_append_str _ _ _ 51 9 rfl w1.heap.size 5 i0 Tryd.underlying51 Tryd.underlying9 hi hz0 hz1 hz2 v R.length (Lib.byteCells R) rfl HO11.out _ rfl ?c1 ?c2 ?c3 ?_; (case c1 => rw [HY.out, ba_size]; have := HYs.out; have := HL9.out; unfold maxLen; omega); (case c2 => rw [HY.out, ba_size]; have := HYs.out; have := HL9.out; omega); (case c3 => have := HX11.out.size; have := HS9.out; omega); intro v12 w12 ho12 hg12; have HO12 : Aside0 (OT w1.heap.size (R ++ rowT f0 row wv) v12 w12) := ⟨by have h9 := ot_str ho12; rw [bl_of HY.out] at h9; exact h9⟩; have HB12 : Aside0 (Below w.heap.size w w12) := ⟨HB11.out.grown hg12 HB11.out.size (fun k hk => by have h9 := ot_lt HO11.out hk; have h8 := HZ.out; omega)⟩; have HK12 := Aside0.mk ((hg12.block W6.heap.size (by have := (Array.getElem?_eq_some_iff.1 HK11.out).1; exact this) (ot_ne HO11.out HK11.out (by decide))).trans HK11.out); have HC12 : Aside0 (w12.cell? (ad3.add y.toNat) = some (.int .i64 wv)) := ⟨cell_grownD hg12 HC11.out (fun e => by have h9 := ot_lt HO11.out e.symm; rw [add_block] at h9; have h8 := HB3.out; have h7 := HZ.out; omega)⟩; have HS12 : Aside0 (w1.heap.size ≤ w12.heap.size) := ⟨by have h9 := hg12.size; have h8 := HX11.out.size; have h7 := HS9.out; omega⟩; clear ho12 hg12))
            all_goals go_wp2
            all_goals go_roundw
            all_goals first | (exact ⟨y + 1, rfl, by omega, by omega, ⟨by rw [HF2.out]; exact HO12.out⟩, HK12, HB12, HS12⟩) | (simp [intOf]; omega)
          · have hx : y.toNat = f2.length := by omega
            rw [hx] at hR
            have HR9 : Aside0 (dataT (l.take (x + 1).toNat) = R) := ⟨by rw [HE2.out, hR]⟩
            clear hx hR
            go_wp2
            go_roundw
            case rel => exact ⟨x + 1, rfl, by omega, by omega, ⟨by rw [HR9.out]; exact HT9.out⟩, HB9, HS9⟩
            case measure => simp [intOf]; omega
      · have hx : l.take x.toNat = l := List.take_of_length_le (by omega)
        rw [hx] at hT
        have HR9 : Aside0 (printD l = ba T) := ⟨by rw [HG.out, hT]⟩
        have hcv := ot_conv HT6.out
        clear hx hT
        go_wp2
        go_ret
        exact ⟨by rw [HR9.out]; rfl, HB6.out⟩
  · have HG : Aside0 (printD l = ⟨#[]⟩) := ⟨by unfold printD; rw [if_neg h]⟩
    rw [show dataOKb l = false by simpa using h] at HD
    clear h hr hD
    go_enter Tryd.func7, Tryd.ntmps7
    go_wp2_with (first | (go_at_call 21; (with_reducible refine (HD.out _ (below_alloc HB.out _)).mono ?_); rintro e w1 ⟨rfl, hb1⟩))
    go_ret
    exact ⟨by rw [HG.out]; rfl, below_step (below_alloc HB.out _) hb1⟩
end Go.Proofs.YtjlglimikbfgmaaDoor.PT
namespace Go.Proofs.YtjlglimikbfgmaaDoor.PT
open Go.RowKit Go.Proofs.YtjlglimikbfgmaaDoor.P Go.Proofs.YtjlglimikbfgmaaDoorW.PrintWords Go.Proofs.YtjlglimikbfgmaaDoorW.PrintLast Go.Proofs.YtjlglimikbfgmaaDoor.EvKit
set_option linter.unusedSimpArgs false
set_option linter.unusedVariables false
def GData (l : List LRel) : Prop := l.length ≤ maxLen ∧ ∀ x, x ∈ l → x.f0.size ≤ maxLen ∧ (Lit.int .i64 x.f1).wf = true ∧ (x.f2.length ≤ maxLen ∧ ∀ y, y ∈ x.f2 → y.length ≤ maxLen ∧ ∀ z, z ∈ y → (Lit.int .i64 z).wf = true)
    ∧ (x.f3.length ≤ maxLen ∧ ∀ y, y ∈ x.f3 → (Lit.int .i64 y).wf = true)
theorem GData.parts {l : List LRel} (g : GData l) : l.length ≤ 9223372036854775807 ∧ ∀ x, x ∈ l → GRel x := by
  obtain ⟨g1, g2⟩ := g
  unfold maxLen at g1 g2
  exact ⟨g1, fun x hx => ⟨(g2 x hx).1, (g2 x hx).2.2.1.1, fun y hy => ((g2 x hx).2.2.1.2 y hy).1, (g2 x hx).2.2.2.1⟩⟩
theorem printData_law {A0_0 : Option Addr} {c0_0 : Nat} {l0_0 : List LRel} {w : World}
    (hr0_0 : Kd.C k107 w A0_0 l0_0.length l0_0) (hc0_0 : l0_0.length ≤ c0_0) (g1 : GData l0_0) (hL : laidMet Tryd.prog (laidD (H := Unit)) w) :
    Calls Tryd.prog 3 #[.agg #[.slice A0_0 l0_0.length c0_0]] w fun e w' => e = .returned (.bool true) ∧ Below w.heap.size w w' := by
  obtain ⟨gq1, gq2⟩ := g1.parts
  have hp : Pow10 w := pow10_of hL
  obtain ⟨kzQ, hzQ⟩ := Ev.rounds (szData_ev l0_0 gq1 gq2)
  have z2 : 0 ≤ (if szDv l0_0 < 0 then -1 else szDv l0_0) → l0_0.length ≤ 1048576 ∧ ∀ x, x ∈ l0_0 → SRel x := fun h1 => by
    by_cases c : szDv l0_0 < 0
    · rw [if_pos c] at h1; omega
    · obtain ⟨q1, _, q3⟩ := szDv_le (l := l0_0) (by omega)
      exact ⟨q1, q3⟩
  generalize (if szDv l0_0 < 0 then -1 else szDv l0_0) = zQ at *
  refine lawPD_walk A0_0 c0_0 l0_0.length w (l0_0.map toRel) zQ (printD (l0_0.map toRel))
    (fun W hW => laws_szData.calls kzQ A0_0 c0_0 l0_0 _ _ W (Kd.C_below hr0_0 hW) hc0_0 hzQ) (fun h1 W hW => ?_) (fun h1 W A c r1 b1 => ?_) (fun h1 W A c hW r1 b1 => ?_) (fun h1 => ?_)
  · obtain ⟨q2, q3⟩ := z2 h1
    obtain ⟨k, hk⟩ := Ev.rounds (toData_ev l0_0 q2 q3)
    refine (laws_toData.calls k A0_0 c0_0 l0_0 _ W (Kd.C_below hr0_0 hW) hc0_0 hk).mono fun e W' ⟨v1, he, ho1, hb⟩ => ?_
    obtain ⟨A, c, rfl, hl, hc⟩ := Kd.R_reads ho1
    exact ⟨A, c, he, hc, hl, hb⟩
  · obtain ⟨q2, q3⟩ := z2 h1
    exact specPD_walk A c _ W r1 b1 (Ev.rounds (specDataOK_ev _ (fits_toRel q3)))
  · obtain ⟨q2, q3⟩ := z2 h1
    exact printD_walk A c _ W r1 b1 (Ev.rounds (implDataOK_ev _ (fits_toRel q3))) (hp.below hW)
  · obtain ⟨q2, q3⟩ := z2 h1
    exact Ev.rounds (eqData_ev l0_0 q2 q3)
end Go.Proofs.YtjlglimikbfgmaaDoor.PT
namespace Go.Proofs.YtjlglimikbfgmaaDoor.fnExactPrintData
open Go.Proofs.YtjlglimikbfgmaaDoor.PT (laidD)
open Go.ChangeShapes Go.WideShapes Go.ChangeAt Go.RowKit
open Go.ChangeMaps (open_string shut_string)
open Go.Proofs.YtjlglimikbfgmaaDoor.Opens Go.Proofs.YtjlglimikbfgmaaDoorW.PrintWords
set_option linter.unusedVariables false
theorem own : ownKnob Tryd.prog.godebug = none := by kernel_rfl
theorem door_met (os : Os) (args : Array Value) : laidMetH Tryd.prog laidD ((World.doorLaid Tryd.prog 400 os).forCall (fun _ _ => 0) ⟨#[], args, []⟩).memory :=
  laidMetH_of_parts3 (fuel := 8) (laidMet_of_run' 8 (by kernel_rfl) (by kernel_rfl)) (by kernel_rfl) (by kernel_rfl)
theorem laidOut : laidOutB Tryd.prog = true := by kernel_rfl
def G9 (v : ByteArray) : Prop := v.size ≤ maxLen
theorem opens9 : Opens Tryd.prog Kd.string 9 G9 := Opens.string Tryd.underlying9 (by kernel_rfl)
def G3 (v : Int) : Prop := (Lit.int .i64 v).wf = true
theorem opens3 : Opens Tryd.prog (Kd.int .i64) 3 G3 := Opens.int Tryd.underlying3 (by kernel_rfl)
def G53 (v : (List Int)) : Prop := v.length ≤ maxLen ∧ ∀ x, x ∈ v → G3 x
theorem opens53 : Opens Tryd.prog (Kd.slice 3 (Kd.int .i64)) 53 G53 := Opens.slice Tryd.underlying53 (by kernel_rfl) opens3
def G52 (v : (List (List Int))) : Prop := v.length ≤ maxLen ∧ ∀ x, x ∈ v → G53 x
theorem opens52 : Opens Tryd.prog (Kd.slice 53 (Kd.slice 3 (Kd.int .i64))) 52 G52 := Opens.slice Tryd.underlying52 (by kernel_rfl) opens53
def G107 (v : Go.Proofs.YtjlglimikbfgmaaDoor.P.S107) : Prop := G9 (v.f0) ∧ G3 (v.f1) ∧ G52 (v.f2) ∧ G53 (v.f3)
theorem opensE107 : Opens Tryd.prog Go.Proofs.YtjlglimikbfgmaaDoor.P.k107 107 G107 := Opens.struct Tryd.underlying107 (by kernel_rfl) (fun enc W held n cs hl hf =>
  Opens.iso (fun x : Go.Proofs.YtjlglimikbfgmaaDoor.P.S107 => (x.f0, x.f1, x.f2, x.f3)) (fun x => ⟨x.1, x.2.1, x.2.2.1, x.2.2.2⟩) (fun _ => rfl) (Opens.cons (o := 0) (k := 1) (Opens.fld (o := 0) opens9 (hf 0 _ rfl)) (Opens.cons (o := 1) (k := 1) (Opens.fld (o := 1) opens3 (hf 1 _ rfl)) (Opens.cons (o := 2) (k := 1) (Opens.fld (o := 2) opens52 (hf 2 _ rfl)) (Opens.last (o := 3) (k := 1) (hl.trans rfl) (Opens.fld (o := 3) opens53 (hf 3 _ rfl)))))))
def G22 (v : (List Go.Proofs.YtjlglimikbfgmaaDoor.P.S107)) : Prop := v.length ≤ maxLen ∧ ∀ x, x ∈ v → G107 x
theorem opens22 : Opens Tryd.prog (Kd.slice 107 Go.Proofs.YtjlglimikbfgmaaDoor.P.k107) 22 G22 := Opens.slice Tryd.underlying22 (by kernel_rfl) opensE107
def G24P (v : ((List Go.Proofs.YtjlglimikbfgmaaDoor.P.S107))) : Prop := G22 v
theorem opens24 : Opens Tryd.prog (Kd.slice 107 Go.Proofs.YtjlglimikbfgmaaDoor.P.k107) 24 G24P := Opens.struct Tryd.underlying24 (by kernel_rfl) (fun enc W held n cs hl hf => (Opens.last (o := 0) (k := 1) (hl.trans rfl) (Opens.fld (o := 0) opens22 (hf 0 _ rfl))))
set_option maxRecDepth 100000 in
theorem lifted (os : Os) (started : os.Started) (H : Type) (enc : TypeId × Value → H) :
    ReturnsInHanded {} Tryd.checked os 3 .any (fun w args => (Rows.fnExactPrintDataSpec.pre enc Tryd.prog Tryd.f3 [] false w args ∧ laidMetH Tryd.prog laidD w) ∧ sizedMet enc Tryd.prog Tryd.f3 (OpenSpec.ofChange Rows.fnExactPrintDataSpec) false w args)
      (Rows.fnExactPrintDataSpec.post enc Tryd.prog Tryd.f3 false true false false) := by
  refine returnsInHanded_of_change_and (C := Tryd.checked) (X := fun w _ => laidMetH Tryd.prog laidD w) (fun _ _ _ hh h => h.of_heap hh) own started (by kernel_rfl) Tryd.func3
    (ChangeSpec.witness_shaped (enc := enc) (C := Tryd.checked) (os := os) (X := fun w _ => laidMetH Tryd.prog laidD w) false (World.doorLaid Tryd.prog 400 os) #[.agg #[.slice none 0 0]] 8 rfl (World.shaped_of_RefB (by kernel_rfl) (by kernel_rfl)) (by kernel_rfl) (by kernel_rfl) (by kernel_rfl) (door_met os _)) ?_
  intro W base args ds gs before hval0 hW _ _ hL _
  rw [MakeChecks.laidMetH_plain _ _ _ (by kernel_rfl)] at hL
  have hval : ∀ (j : Nat) t v, Tryd.f3.params[j]? = some t → args[j]? = some v → Value.okWide Tryd.prog W .any base t v := hval0
  have hW' := hW
  obtain ⟨p, q, hA0, hV, rfl, hfz, hnd⟩ := hW
  have hA : DataW.TrodAll enc Tryd.prog W 0 (fun _ => true) true Tryd.f3.params.toList args.toList ds p := hA0
  rw [Tryd.params3] at hA hval
  obtain ⟨v0, vs0, d0, ds0, p0, q0, hargs, rfl, rfl, h0, r0⟩ := trodAll_cons hA
  obtain ⟨rfl, rfl, rfl⟩ := trodAll_nil r0
  obtain rfl : args = #[v0] := by cases args; simp_all
  obtain ⟨rfl, rfl⟩ := trodVars_none hV
  have k0 := h0
  have lt0 : ∀ x ∈ p0, x.block < W.heap.size := by obtain ⟨m, hm⟩ := k0; exact DataW.trod_lt m _ _ _ hm
  obtain ⟨cs0, rfl, sz0⟩ := okWide_struct Tryd.underlying24 (hval 0 24 v0 rfl rfl)
  obtain ⟨fu0, hf0⟩ := h0
  obtain ⟨x0, hK0, gg0⟩ := (opens24).2 enc W true fu0 _ _ hf0
  have hK0' : ((Kd.slice 107 Go.Proofs.YtjlglimikbfgmaaDoor.P.k107)).K W x0 cs0.toList := hK0
  generalize hcs0 : cs0.toList = cl0 at hK0'
  obtain ⟨A0_0, c0_0, rfl, hc0_0, hr0_0⟩ := hK0'
  obtain rfl : cs0 = #[.slice A0_0 x0.length c0_0] := by cases cs0; simp_all
  clear hA0 hval0
  refine (Go.Proofs.YtjlglimikbfgmaaDoor.PT.printData_law (w := W) (A0_0 := A0_0) (c0_0 := c0_0) (l0_0 := x0) (hr0_0 := hr0_0) (hc0_0 := hc0_0) gg0 hL).mono fun e W' ⟨he, bel⟩ => ?_
  subst he
  exact ⟨_, rfl, _, _, _, [], _, [], hW', trodAll_mk1 (shut_bool Tryd.underlying4 _), (trodAll_cons_mk (Below.trod laidOut (by kernel_rfl) (of_decide_eq_true (by kernel_rfl)) k0 bel lt0) trodAll_mk0), rfl, bel.frame _, fun h => by cases h⟩
theorem over : Rows.fnExactPrintDataRow.holds Tryd.pinned (OpenSpec.ofChange Rows.fnExactPrintDataSpec) :=
  OpenClaim.holds_of_wide 3 Tryd.f3 rfl rfl rfl rfl rfl rfl rfl ⟨rfl, rfl, rfl, rfl, rfl⟩ rfl rfl rfl rfl rfl (by kernel_rfl) Tryd.func3 (by kernel_rfl)
    (of_decide_eq_true (by kernel_rfl)) (by unfold Func.isWrapper; first | (rw [if_pos (by decide +kernel)]; kernel_rfl) | (rw [if_neg (by decide +kernel)]; exact ⟨rfl, rfl⟩))
    (fun os started H enc _ => lifted os started H enc)
theorem proved : Rows.FnExactPrintDataCardSaid :=
  Claim7.holds_tied_plain_at .later [] [.data, .data, .data] true (true, "9f410d6141dfeaa45840800688d8d14ca80d9a63b2460f0ef54f6cb0b6284601") true
    over (fun _ h => by cases h) (by kernel_rfl) (fun _ h => by cases h) fnExactPrintData_row_tie rfl ⟨rfl, rfl⟩ (by kernel_rfl) rfl
    (fun f fn hf hfn => by
      obtain rfl : f = 3 := Option.some.inj ((show Tryd.prog.funcNamed "loop.example/s01205/laws.FnExactPrintData" = some 3 by kernel_rfl).symm.trans hf) |>.symm
      obtain rfl : fn = Tryd.f3 := (Option.some.inj (Tryd.func3.symm.trans hfn)).symm
      exact ⟨by kernel_rfl, fun j t ht => by
        rw [Tryd.params3] at ht
        have hm : t ∈ [24] := by simpa using Array.mem_of_getElem? ht
        have hall : ([24].all fun u => !Tryd.prog.wantsStandIn u) = true := by kernel_rfl
        exact (show Tryd.prog.wantsStandIn t = false by simpa using List.all_eq_true.1 hall t hm)⟩)
    (by kernel_rfl)
#print axioms proved
end Go.Proofs.YtjlglimikbfgmaaDoor.fnExactPrintData
