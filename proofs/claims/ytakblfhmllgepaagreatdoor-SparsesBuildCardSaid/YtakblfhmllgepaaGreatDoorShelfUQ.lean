/- Proved here: parts of the proof: ShelfU Txt TxtB. Conditions: those that each theorem states. -/
import Derived.Shelf.Small.Bits
import Derived.Shelf.LaysM
import Derived.Shelf.Strconv.Itoa0
import Derived.Shelf.Strconv.Itoa1
import Derived.Shelf.Strconv.Itoa2
import Derived.Shelf.Strconv.Itoa3
import Derived.Test.YtakblfhmllgepaaGreatDoorProg
import Derived.Test.YtakblfhmllgepaaGreatDoorEachQ
section
/- Contracts of Go's library at this translation, laid out of the guide's shelf. -/
namespace Go.Proofs
open Go.Shelf
def Tryz.lays283_ren : Go.Shelf.Ren := ⟨fun | 283 => 137 | n => n, fun | 3 => 3 | 9 => 9 | 4 => 4 | n => n, fun | n => n⟩
theorem Tryz.lays283 : Go.Proofs.Lays.n283 Tryz.prog Tryz.lays283_ren := {
  mixed := by kernel_rfl
  f283 := Tryz.func137.trans (congrArg some (by kernel_rfl))
  t3 := Tryz.underlying3
  a3 := Tryz.isAgg3
  z3 := Tryz.sizeOf3
  v3 := Tryz.zeroValue3
  t4 := Tryz.underlying4
  a4 := Tryz.isAgg4
  z4 := Tryz.sizeOf4
  v4 := Tryz.zeroValue4
  t9 := Tryz.underlying9
  a9 := Tryz.isAgg9
  z9 := Tryz.sizeOf9
  v9 := Tryz.zeroValue9 }
open Go.Lib in
/-- internal/strconv.small: "small returns the string for an i with 0 <= i < nSmalls.": i's decimal numeral. The world is as it was. (LAID: no walk: one application.) -/
theorem Tryz.internal_strconv_small (i : Nat) (h : i < 100) (w : World) :
    Calls Tryz.prog 137 #[.int .i64 i] w fun e w' => e = .returned (.string ⟨(Lib.decDigits i).toArray⟩) ∧ w' = w := Any.internal_strconv_small Tryz.lays283 i h w
def Tryz.laysM284_ren : Go.Shelf.Ren := ⟨fun | 284 => 138 | 129 => 115 | 317 => 154 | 318 => 155 | n => n, fun | 53 => 48 | 3 => 3 | 212 => 223 | 0 => 0 | 4 => 4 | 46 => 132 | 5 => 5 | 9 => 9 | n => n, fun | 17 => 0 | n => n⟩
theorem Tryz.laysM284 : Go.Proofs.LaysM.n284 Tryz.prog Tryz.laysM284_ren := {
  mixed := by kernel_rfl
  f129 := Tryz.func115.trans (congrArg some (by kernel_rfl))
  f284 := Tryz.func138.trans (congrArg some (by kernel_rfl))
  f317 := Tryz.func154.trans (congrArg some (by kernel_rfl))
  f318 := Tryz.func155.trans (congrArg some (by kernel_rfl))
  t0 := Tryz.underlying0
  a0 := Tryz.isAgg0
  z0 := Tryz.sizeOf0
  v0 := Tryz.zeroValue0
  t3 := Tryz.underlying3
  a3 := Tryz.isAgg3
  z3 := Tryz.sizeOf3
  v3 := Tryz.zeroValue3
  t4 := Tryz.underlying4
  a4 := Tryz.isAgg4
  z4 := Tryz.sizeOf4
  v4 := Tryz.zeroValue4
  t5 := Tryz.underlying5
  a5 := Tryz.isAgg5
  z5 := Tryz.sizeOf5
  v5 := Tryz.zeroValue5
  t9 := Tryz.underlying9
  a9 := Tryz.isAgg9
  z9 := Tryz.sizeOf9
  v9 := Tryz.zeroValue9
  t46 := Tryz.underlying132
  a46 := Tryz.isAgg132
  z46 := Tryz.sizeOf132
  v46 := Tryz.zeroValue132
  t53 := Tryz.underlying48
  a53 := Tryz.isAgg48
  z53 := Tryz.sizeOf48
  v53 := Tryz.zeroValue48
  t212 := Tryz.underlying223
  a212 := Tryz.isAgg223
  z212 := Tryz.sizeOf223
  v212 := Tryz.zeroValue223
  g17 := by kernel_rfl
  i0 := by kernel_rfl
  i3 := by kernel_rfl
  i4 := by kernel_rfl
  i5 := by kernel_rfl
  i9 := by kernel_rfl
  i46 := by kernel_rfl
  i53 := by kernel_rfl
  i212 := by kernel_rfl
  m17 := by kernel_rfl }
open Go.Lib in
/-- internal/strconv.numDigits, at a d that is not 0: THE NUMBER OF d's DECIMAL DIGITS. The world is as it was. (LAID: no walk: one application.) -/
theorem Tryz.internal_strconv_numDigits (u : Nat) (h1 : 1 ≤ u) (h2 : u < 18446744073709551616) (w : World) (htab : Lib.TabIs Tryz.prog w "internal/strconv.uint64pow10" .u64 Lib.pow10Tab) :
    Calls Tryz.prog 138 #[.int .u64 u] w fun e w' => e = .returned (.int .i64 (Lib.nDigits u)) ∧ w' = w := Any.internal_strconv_numDigits Tryz.laysM284 u h1 h2 w htab
def Tryz.lays285_ren : Go.Shelf.Ren := ⟨fun | 285 => 139 | n => n, fun | 37 => 144 | 53 => 48 | 3 => 3 | 4 => 4 | 51 => 33 | 9 => 9 | 5 => 5 | 0 => 0 | n => n, fun | n => n⟩
theorem Tryz.lays285 : Go.Proofs.Lays.n285 Tryz.prog Tryz.lays285_ren := {
  mixed := by kernel_rfl
  f285 := Tryz.func139.trans (congrArg some (by kernel_rfl))
  t0 := Tryz.underlying0
  a0 := Tryz.isAgg0
  z0 := Tryz.sizeOf0
  v0 := Tryz.zeroValue0
  t3 := Tryz.underlying3
  a3 := Tryz.isAgg3
  z3 := Tryz.sizeOf3
  v3 := Tryz.zeroValue3
  t4 := Tryz.underlying4
  a4 := Tryz.isAgg4
  z4 := Tryz.sizeOf4
  v4 := Tryz.zeroValue4
  t5 := Tryz.underlying5
  a5 := Tryz.isAgg5
  z5 := Tryz.sizeOf5
  v5 := Tryz.zeroValue5
  t9 := Tryz.underlying9
  a9 := Tryz.isAgg9
  z9 := Tryz.sizeOf9
  v9 := Tryz.zeroValue9
  t37 := Tryz.underlying144
  a37 := Tryz.isAgg144
  z37 := Tryz.sizeOf144
  v37 := Tryz.zeroValue144
  t51 := Tryz.underlying33
  a51 := Tryz.isAgg33
  z51 := Tryz.sizeOf33
  v51 := Tryz.zeroValue33
  t53 := Tryz.underlying48
  a53 := Tryz.isAgg48
  z53 := Tryz.sizeOf48
  v53 := Tryz.zeroValue48 }
open Go.RowKit Go.Sort Go.Lib in
/-- internal/strconv.formatBase10: "formatBase10 formats the decimal representation of u into a. The caller is responsible for ensuring that a is big enough to hold u. If a is too big, leading zeros will be filled in as needed.": THE ROW HOLDS u's DIGITS ('FmtInv .. 0 ..': every place t holds 'dg u (len - 1 - t)'); all else is as it was but for the count of draws. (LAID: no walk: one application.) -/
theorem Tryz.internal_strconv_formatBase10 (blk off cap : Nat) (u : Nat) (d : Array UInt8) (w : World) (hH : Holds (fun (b : UInt8) => Value.int .u8 (b.toNat : Int)) w blk off d) (hu : u < 10 ^ d.size) (hu64 : u < 18446744073709551616) (hsz : d.size < 4611686018427387904) :
    Calls Tryz.prog 139 #[.slice (some ⟨blk, off, none⟩) d.size cap, .int .u64 u] w fun e w' =>
      e = .returned (.tuple #[]) ∧ ∃ (n v' : Nat) (dk : Array UInt8), w' = (putRow (fun (b : UInt8) => Value.int .u8 (b.toNat : Int)) w blk off dk).drewN n ∧ FmtInv d.size u 0 v' dk := Any.internal_strconv_formatBase10 Tryz.lays285 blk off cap u d w hH hu hu64 hsz
def Tryz.laysM171_ren : Go.Shelf.Ren := ⟨fun | 171 => 35 | 243 => 72 | 246 => 116 | 283 => 137 | 284 => 138 | 285 => 139 | 286 => 140 | 129 => 115 | 317 => 154 | 318 => 155 | 319 => 156 | 320 => 157 | 337 => 161 | 338 => 162 | n => n, fun | 3 => 3 | 9 => 9 | 2 => 2 | 4 => 4 | 171 => 203 | 0 => 0 | 53 => 48 | 37 => 144 | 5 => 5 | 173 => 205 | 212 => 223 | 51 => 33 | 20 => 20 | 213 => 224 | 46 => 132 | 232 => 226 | 233 => 227 | n => n, fun | 17 => 0 | 18 => 3 | 19 => 4 | n => n⟩
theorem Tryz.laysM171 : Go.Proofs.LaysM.n171 Tryz.prog Tryz.laysM171_ren := {
  mixed := by kernel_rfl
  f129 := Tryz.func115.trans (congrArg some (by kernel_rfl))
  f171 := Tryz.func35.trans (congrArg some (by kernel_rfl))
  f243 := Tryz.func72.trans (congrArg some (by kernel_rfl))
  f246 := Tryz.func116.trans (congrArg some (by kernel_rfl))
  f283 := Tryz.func137.trans (congrArg some (by kernel_rfl))
  f284 := Tryz.func138.trans (congrArg some (by kernel_rfl))
  f285 := Tryz.func139.trans (congrArg some (by kernel_rfl))
  f286 := Tryz.func140.trans (congrArg some (by kernel_rfl))
  f317 := Tryz.func154.trans (congrArg some (by kernel_rfl))
  f318 := Tryz.func155.trans (congrArg some (by kernel_rfl))
  f319 := Tryz.func156.trans (congrArg some (by kernel_rfl))
  f320 := Tryz.func157.trans (congrArg some (by kernel_rfl))
  f337 := Tryz.func161.trans (congrArg some (by kernel_rfl))
  f338 := Tryz.func162.trans (congrArg some (by kernel_rfl))
  t0 := Tryz.underlying0
  a0 := Tryz.isAgg0
  z0 := Tryz.sizeOf0
  v0 := Tryz.zeroValue0
  t2 := Tryz.underlying2
  a2 := Tryz.isAgg2
  z2 := Tryz.sizeOf2
  v2 := Tryz.zeroValue2
  t3 := Tryz.underlying3
  a3 := Tryz.isAgg3
  z3 := Tryz.sizeOf3
  v3 := Tryz.zeroValue3
  t4 := Tryz.underlying4
  a4 := Tryz.isAgg4
  z4 := Tryz.sizeOf4
  v4 := Tryz.zeroValue4
  t5 := Tryz.underlying5
  a5 := Tryz.isAgg5
  z5 := Tryz.sizeOf5
  v5 := Tryz.zeroValue5
  t9 := Tryz.underlying9
  a9 := Tryz.isAgg9
  z9 := Tryz.sizeOf9
  v9 := Tryz.zeroValue9
  t20 := Tryz.underlying20
  a20 := Tryz.isAgg20
  z20 := Tryz.sizeOf20
  v20 := Tryz.zeroValue20
  t37 := Tryz.underlying144
  a37 := Tryz.isAgg144
  z37 := Tryz.sizeOf144
  v37 := Tryz.zeroValue144
  t46 := Tryz.underlying132
  a46 := Tryz.isAgg132
  z46 := Tryz.sizeOf132
  v46 := Tryz.zeroValue132
  t51 := Tryz.underlying33
  a51 := Tryz.isAgg33
  z51 := Tryz.sizeOf33
  v51 := Tryz.zeroValue33
  t53 := Tryz.underlying48
  a53 := Tryz.isAgg48
  z53 := Tryz.sizeOf48
  v53 := Tryz.zeroValue48
  t171 := Tryz.underlying203
  a171 := Tryz.isAgg203
  z171 := Tryz.sizeOf203
  v171 := Tryz.zeroValue203
  t173 := Tryz.underlying205
  a173 := Tryz.isAgg205
  z173 := Tryz.sizeOf205
  v173 := Tryz.zeroValue205
  t212 := Tryz.underlying223
  a212 := Tryz.isAgg223
  z212 := Tryz.sizeOf223
  v212 := Tryz.zeroValue223
  t213 := Tryz.underlying224
  a213 := Tryz.isAgg224
  z213 := Tryz.sizeOf224
  t232 := Tryz.underlying226
  a232 := Tryz.isAgg226
  z232 := Tryz.sizeOf226
  v232 := Tryz.zeroValue226
  t233 := Tryz.underlying227
  a233 := Tryz.isAgg227
  z233 := Tryz.sizeOf227
  v233 := Tryz.zeroValue227
  g17 := by kernel_rfl
  g18 := by kernel_rfl
  g19 := by kernel_rfl
  i0 := by kernel_rfl
  i2 := by kernel_rfl
  i3 := by kernel_rfl
  i4 := by kernel_rfl
  i5 := by kernel_rfl
  i9 := by kernel_rfl
  i20 := by kernel_rfl
  i37 := by kernel_rfl
  i46 := by kernel_rfl
  i51 := by kernel_rfl
  i53 := by kernel_rfl
  i171 := by kernel_rfl
  i173 := by kernel_rfl
  i212 := by kernel_rfl
  i232 := by kernel_rfl
  i233 := by kernel_rfl
  m17 := by kernel_rfl
  m18 := by kernel_rfl
  m19 := by kernel_rfl }
open Go.RowKit Go.Sort Go.Lib in
/-- strconv.Itoa: "Itoa is equivalent to FormatInt(int64(i), 10).": i's DECIMAL NUMERAL ('Lib.itoa': a '-' where i is negative, then the digits), FOR EVERY int. The world behind the call: the world before it, new blocks behind the heap (the library's 'var a [24]byte'), draws. (LAID: no walk: one application.) -/
theorem Tryz.strconv_Itoa (n : Int) (h0 : -9223372036854775808 ≤ n) (h1 : n ≤ 9223372036854775807) (w : World) (htab : Lib.TabIs Tryz.prog w "internal/strconv.uint64pow10" .u64 Lib.pow10Tab) :
    Calls Tryz.prog 35 #[.int .i64 n] w fun e w' => e = .returned (.string ⟨(Lib.itoa n).toArray⟩) ∧ ∃ k os, w' = grow (w.drewN k) os := Any.strconv_Itoa Tryz.laysM171 n h0 h1 w htab
def Tryz.lays171_ren : Go.Shelf.Ren := ⟨fun | 171 => 35 | 243 => 72 | 246 => 116 | 283 => 137 | 284 => 138 | 285 => 139 | 286 => 140 | 129 => 115 | 317 => 154 | 318 => 155 | 319 => 156 | 320 => 157 | 337 => 161 | 338 => 162 | n => n, fun | 3 => 3 | 9 => 9 | 2 => 2 | 4 => 4 | 171 => 203 | 0 => 0 | 53 => 48 | 37 => 144 | 5 => 5 | 173 => 205 | 212 => 223 | 51 => 33 | 20 => 20 | 213 => 224 | 46 => 132 | 232 => 226 | 233 => 227 | n => n, fun | 17 => 0 | 18 => 3 | 19 => 4 | n => n⟩
theorem Tryz.lays171 : Go.Proofs.Lays.n171 Tryz.prog Tryz.lays171_ren := {
  mixed := by kernel_rfl
  f129 := Tryz.func115.trans (congrArg some (by kernel_rfl))
  f171 := Tryz.func35.trans (congrArg some (by kernel_rfl))
  f243 := Tryz.func72.trans (congrArg some (by kernel_rfl))
  f246 := Tryz.func116.trans (congrArg some (by kernel_rfl))
  f283 := Tryz.func137.trans (congrArg some (by kernel_rfl))
  f284 := Tryz.func138.trans (congrArg some (by kernel_rfl))
  f285 := Tryz.func139.trans (congrArg some (by kernel_rfl))
  f286 := Tryz.func140.trans (congrArg some (by kernel_rfl))
  f317 := Tryz.func154.trans (congrArg some (by kernel_rfl))
  f318 := Tryz.func155.trans (congrArg some (by kernel_rfl))
  f319 := Tryz.func156.trans (congrArg some (by kernel_rfl))
  f320 := Tryz.func157.trans (congrArg some (by kernel_rfl))
  f337 := Tryz.func161.trans (congrArg some (by kernel_rfl))
  f338 := Tryz.func162.trans (congrArg some (by kernel_rfl))
  t0 := Tryz.underlying0
  a0 := Tryz.isAgg0
  z0 := Tryz.sizeOf0
  v0 := Tryz.zeroValue0
  t2 := Tryz.underlying2
  a2 := Tryz.isAgg2
  z2 := Tryz.sizeOf2
  v2 := Tryz.zeroValue2
  t3 := Tryz.underlying3
  a3 := Tryz.isAgg3
  z3 := Tryz.sizeOf3
  v3 := Tryz.zeroValue3
  t4 := Tryz.underlying4
  a4 := Tryz.isAgg4
  z4 := Tryz.sizeOf4
  v4 := Tryz.zeroValue4
  t5 := Tryz.underlying5
  a5 := Tryz.isAgg5
  z5 := Tryz.sizeOf5
  v5 := Tryz.zeroValue5
  t9 := Tryz.underlying9
  a9 := Tryz.isAgg9
  z9 := Tryz.sizeOf9
  v9 := Tryz.zeroValue9
  t20 := Tryz.underlying20
  a20 := Tryz.isAgg20
  z20 := Tryz.sizeOf20
  v20 := Tryz.zeroValue20
  t37 := Tryz.underlying144
  a37 := Tryz.isAgg144
  z37 := Tryz.sizeOf144
  v37 := Tryz.zeroValue144
  t46 := Tryz.underlying132
  a46 := Tryz.isAgg132
  z46 := Tryz.sizeOf132
  v46 := Tryz.zeroValue132
  t51 := Tryz.underlying33
  a51 := Tryz.isAgg33
  z51 := Tryz.sizeOf33
  v51 := Tryz.zeroValue33
  t53 := Tryz.underlying48
  a53 := Tryz.isAgg48
  z53 := Tryz.sizeOf48
  v53 := Tryz.zeroValue48
  t171 := Tryz.underlying203
  a171 := Tryz.isAgg203
  z171 := Tryz.sizeOf203
  v171 := Tryz.zeroValue203
  t173 := Tryz.underlying205
  a173 := Tryz.isAgg205
  z173 := Tryz.sizeOf205
  v173 := Tryz.zeroValue205
  t212 := Tryz.underlying223
  a212 := Tryz.isAgg223
  z212 := Tryz.sizeOf223
  v212 := Tryz.zeroValue223
  t213 := Tryz.underlying224
  a213 := Tryz.isAgg224
  z213 := Tryz.sizeOf224
  t232 := Tryz.underlying226
  a232 := Tryz.isAgg226
  z232 := Tryz.sizeOf226
  v232 := Tryz.zeroValue226
  t233 := Tryz.underlying227
  a233 := Tryz.isAgg227
  z233 := Tryz.sizeOf227
  v233 := Tryz.zeroValue227
  g17 := by kernel_rfl
  g18 := by kernel_rfl
  g19 := by kernel_rfl }
open Go.RowKit Go.Sort Go.Lib in
/-- THE ROAD WITHOUT THE TABLE: 0 <= i < 100: NO PREMISE ON THE WORLD, AND THE WORLD IS AS IT WAS: a row that keeps its argument in that range need list no table ('laid = []'). (LAID: no walk: one application.) -/
theorem Tryz.strconv_Itoa_small (i : Nat) (hi : i < 100) (w : World) :
    Calls Tryz.prog 35 #[.int .i64 i] w fun e w' => e = .returned (.string ⟨(Lib.decDigits i).toArray⟩) ∧ w' = w := Any.strconv_Itoa_small Tryz.lays171 i hi w
end Go.Proofs
end
section
/- Texts of numbers: small ones. -/
namespace Gus
open Go Go.RowKit Go.Proofs
def natT (n : Nat) : List UInt8 := Lib.decDigits n
def intT (z : Int) : List UInt8 := if z < 0 then 45 :: natT z.natAbs else natT z.natAbs
def ratT (q : Rat) : List UInt8 := if q.den = 1 then intT q.num else intT q.num ++ 47 :: natT q.den
abbrev strV (l : List UInt8) : Value := .string ⟨l.toArray⟩
theorem fuint_small (i : Nat) (hi : i < 100) (w : World) : Calls Tryz.prog 117 #[.int .u64 i, .int .i64 10] w fun e w' => e = .returned (strV (natT i)) ∧ w' = w := by
  have h1 := fun W => Tryz.internal_strconv_small i hi W
  unfold natT
  generalize Lib.decDigits i = l at *
  have hiI : (i : Int) < 100 := by omega
  have hw : IntKind.i64.wrap (i : Int) = i := IntWalk.i64_in _ (by omega)
  go_enter Tryz.func117, Tryz.ntmps117
  go_wp2_with (first | (go_at_call 137; (with_reducible refine (h1 _).mono ?_); rintro e w' ⟨rfl, rfl⟩) | go_in)
  go_ret
  exact ⟨rfl, rfl⟩
/-- nats.Text is right at n, in whatever world of a class -/
def NatTx (C : World → Prop) (n : Nat) : Prop := ∀ W, C W → Calls Tryz.prog 74 #[natV n] W fun e w' => e = .returned (strV (natT n)) ∧ Below W.heap.size W w'
theorem natText_small (n : Nat) (hn : n < 100) (w : World) : Calls Tryz.prog 74 #[natV n] w fun e w' => e = .returned (strV (natT n)) ∧ Below w.heap.size w w' := by
  have h1 := fun W => fuint_small n hn W
  have e1 : lo n = n := lo_small (by omega)
  have e2 : bg n = ⟨#[]⟩ := bg_small (by omega)
  unfold natV
  rw [e1, e2]
  generalize natT n = l at *
  clear e1 e2
  go_enter Tryz.func74, Tryz.ntmps74
  go_wp2_with (go_at_call 117; (with_reducible refine (h1 _).mono ?_); rintro e w' ⟨rfl, rfl⟩)
  go_ret
  exact ⟨rfl, by (refine In.bel ?_; (repeat (first | (refine In.setCell ?_ (by first | omega | (simp; done) | (simp; omega)) _) | (refine In.alloc ?_ _) | (refine In.drew ?_))); (first | exact In.self _ | (refine In.out h ?_ (by first | omega | (simp; done) | (simp; omega)); (repeat (first | (refine In.setCell ?_ (by first | omega | (simp; done) | (simp; omega)) _) | (refine In.alloc ?_ _) | (refine In.drew ?_))); exact In.self _)))⟩
/-- a class of worlds that later worlds keep -/
def Kept (C : World → Prop) : Prop := ∀ W W', C W → Below W.heap.size W W' → C W'
theorem bcat (a b : List UInt8) : (⟨a.toArray⟩ : ByteArray) ++ ⟨b.toArray⟩ = ⟨(a ++ b).toArray⟩ := by
  apply ByteArray.ext
  simp
theorem str_eq {a b : ByteArray} (h : a = b) : Ending.returned (.string a) = .returned (.string b) := by rw [h]
theorem natT_small {n : Nat} (h : n < 100) : (natT n).length ≤ 2 := by
  unfold natT
  rw [Lib.decDigits]
  split
  · simp
  · rw [Lib.decDigits, dif_pos (by omega)]; simp
theorem intText_any {C : World → Prop} (hC : Kept C) (z : Int) (h : NatTx C z.natAbs) (hl : (natT z.natAbs).length ≤ 1099511627776) (w : World) (hw : C w) : Calls Tryz.prog 73 #[intV z] w fun e w' => e = .returned (strV (intT z)) ∧ Below w.heap.size w w' := by
  have h1 : ∀ o, Calls Tryz.prog 74 #[natV z.natAbs] (w.alloc o) fun e w' => e = .returned (strV (natT z.natAbs)) ∧ Below (w.alloc o).heap.size (w.alloc o) w' := fun o => h _ (hC _ _ hw ((Below.refl _ _).alloc (Nat.le_refl _) o))
  unfold intT intV
  unfold natV at h1
  by_cases hz : z < 0
  · rw [decide_eq_true hz, if_pos hz]
    generalize natT z.natAbs = l at *
    have hl1 : 1 + l.length ≤ 9223372036854775807 := by omega
    clear h hw hC hz
    go_enter Tryz.func73, Tryz.ntmps73
    go_wp2_with fail
    (((with_reducible refine (h1 _).mono ?_)); rintro e w' ⟨rfl, hb⟩; have h := (In.self _).call hb; (try simp only [World.size_alloc] at h); (try simp only [World.size_setCell] at h); clear hb; have hc := h.cell; have hf := h.frozen)
    go_wp2_with fail
    go_ret
    exact ⟨str_eq (bcat [45] l), by (refine In.bel ?_; (repeat (first | (refine In.setCell ?_ (by first | omega | (simp; done) | (simp; omega)) _) | (refine In.alloc ?_ _) | (refine In.drew ?_))); (first | exact In.self _ | (refine In.out h ?_ (by first | omega | (simp; done) | (simp; omega)); (repeat (first | (refine In.setCell ?_ (by first | omega | (simp; done) | (simp; omega)) _) | (refine In.alloc ?_ _) | (refine In.drew ?_))); exact In.self _)))⟩
  · rw [decide_eq_false hz, if_neg hz]
    generalize natT z.natAbs = l at *
    clear h hw hC hz
    go_enter Tryz.func73, Tryz.ntmps73
    go_wp2_with fail
    (((with_reducible refine (h1 _).mono ?_)); rintro e w' ⟨rfl, hb⟩; have h := (In.self _).call hb; (try simp only [World.size_alloc] at h); (try simp only [World.size_setCell] at h); clear hb; have hc := h.cell; have hf := h.frozen)
    go_wp2_with fail
    go_ret
    exact ⟨rfl, by (refine In.bel ?_; (repeat (first | (refine In.setCell ?_ (by first | omega | (simp; done) | (simp; omega)) _) | (refine In.alloc ?_ _) | (refine In.drew ?_))); (first | exact In.self _ | (refine In.out h ?_ (by first | omega | (simp; done) | (simp; omega)); (repeat (first | (refine In.setCell ?_ (by first | omega | (simp; done) | (simp; omega)) _) | (refine In.alloc ?_ _) | (refine In.drew ?_))); exact In.self _)))⟩
theorem intT_length (z : Int) : (intT z).length ≤ (natT z.natAbs).length + 1 := by
  unfold intT
  split <;> simp
/-- fracs.Text is right at q -/
theorem ratText_any {C : World → Prop} (hC : Kept C) (q : Rat) (h1 : NatTx C q.num.natAbs) (h2 : NatTx C q.den) (hl : (natT q.num.natAbs).length ≤ 549755813888) (hl2 : (natT q.den).length ≤ 549755813888) (hd : Wl q.den) (w : World) (hw : C w) :
    Calls Tryz.prog 38 #[fracV q] w fun e w' => e = .returned (strV (ratT q)) ∧ Below w.heap.size w w' := by
  have hwh := isWhole_any q
  have hi := fun W (hW : C W) => intText_any hC q.num h1 (by omega) W hW
  have hlI := intT_length q.num
  unfold ratT
  by_cases hq : q.den = 1
  · rw [decide_eq_true hq] at hwh
    rw [if_pos hq]
    have hin : ∀ W, Below w.heap.size w W → C W := fun W hb => hC _ _ hw hb
    generalize intT q.num = l at *
    clear h1 h2 hl hl2 hd hw hC hq hlI
    go_enter Tryz.func38, Tryz.ntmps38
    go_wp2_with fail
    (((with_reducible refine (hwh _).mono ?_)); rintro e w' ⟨rfl, hb⟩; have h := (In.self _).call hb; (try simp only [World.size_alloc] at h); (try simp only [World.size_setCell] at h); clear hb; have hc := h.cell; have hf := h.frozen)
    have hz0 : w.heap.size < w'.heap.size := (by have := h.siz; omega)
    go_wp2_with fail
    ((with_reducible refine (hi _ (hin _ ?_)).mono ?_))
    · exact (h.out ((In.self w).alloc _) (Nat.le_succ _)).bel
    rintro e w2 ⟨rfl, hb⟩
    replace h := h.call hb
    clear hb hc hf
    go_wp2_with fail
    go_ret
    exact ⟨rfl, by (refine In.bel ?_; (repeat (first | (refine In.setCell ?_ (by first | omega | (simp; done) | (simp; omega)) _) | (refine In.alloc ?_ _) | (refine In.drew ?_))); (first | exact In.self _ | (refine In.out h ?_ (by first | omega | (simp; done) | (simp; omega)); (repeat (first | (refine In.setCell ?_ (by first | omega | (simp; done) | (simp; omega)) _) | (refine In.alloc ?_ _) | (refine In.drew ?_))); exact In.self _)))⟩
  · rw [decide_eq_false hq] at hwh
    rw [if_neg hq]
    have hde := fden_any q hd
    have hlI2 : (intT q.num).length ≤ 549755813889 := by omega
    have hin : ∀ W, Below w.heap.size w W → C W := fun W hb => hC _ _ hw hb
    have hnt := fun W (hW : C W) => h2 W hW
    generalize intT q.num = l at *
    generalize natT q.den = l2 at *
    clear h1 h2 hl hd hw hC hq
    go_enter Tryz.func38, Tryz.ntmps38
    go_wp2_with fail
    (((with_reducible refine (hwh _).mono ?_)); rintro e w' ⟨rfl, hb⟩; have h := (In.self _).call hb; (try simp only [World.size_alloc] at h); (try simp only [World.size_setCell] at h); clear hb; have hc := h.cell; have hf := h.frozen)
    have hz0 : w.heap.size < w'.heap.size := (by have := h.siz; omega)
    go_wp2_with fail
    have hS : ∀ W, St w' W → C W := fun W hs => hin _ ((h.out ((In.self w).alloc _) (Nat.le_succ _)).call hs).bel
    have hl1 : ¬ 9223372036854775807 < l.length + 1 := by omega
    have hl3 : ¬ 9223372036854775807 < l.length + 1 + l2.length := by omega
    clear hin
    have bx := (Bx.new w #[.int .u64 (lo q.num.natAbs), .string (bg q.num.natAbs), .bool (decide (q.num < 0)), .int .u64 (lo (q.den - 1)), .string (bg (q.den - 1))] 56).below h.bel (Nat.lt_succ_self _)
    have x0 := bx.c0
    have x1 := bx.c1
    have x2 := bx.c2
    have x3 := bx.c3
    have x4 := bx.c4
    have hin2 : In w.heap.size w w' := h.out ((In.self w).alloc _) (Nat.le_succ _)
    clear h hc hf bx
    refine wp_region_flow 8 (by kernel_rfl) (by kernel_rfl) (fun _ _ d _ _ h => by cases d <;> exact h) ?_; simp only [List.take_succ_cons, List.take_zero, List.drop_succ_cons, List.drop_zero]; simp only [putAll, Act.put, List.setIfInBounds_toArray, List.set]; (try simp only [Nat.reduceAdd]); (try simp only [Nat.zero_add]); (repeat (first | ((with_reducible refine flow_float (v := ?_) ?_ ?_ ?_); rotate_left 1; (focus (with_reducible rfl)); (focus (intro u w1 hw hd w2; (try simp only [depH] at hd); (try simp only [ext] at hd); (try simp only [extU] at hd); (try simp only [Nat.reduceAdd] at hd); (try simp only [Nat.reduceEqDiff] at hd); (try simp only [reduceIte] at hd); (try simp only [and_true] at hd); (try simp only [true_and] at hd); go_simp; exact rfl))) | ((first | ((with_reducible refine flow_pure0 (v := ?_) ?_ ?_ ?_ ?_); rotate_left 1; (focus (with_reducible rfl)); (focus rfl)) | ((with_reducible refine flow_pureg (v := ?_) (j := ?_) (b := ?_) ?_ ?_ ?_ ?_); rotate_left 3; (focus (with_reducible rfl)); (focus (intro u w1 hw hd; (try simp only [depH] at hd); (try simp only [ext] at hd); (try simp only [extU] at hd); (try simp only [Nat.reduceAdd] at hd); (try simp only [Nat.reduceEqDiff] at hd); (try simp only [reduceIte] at hd); (try simp only [and_true] at hd); (try simp only [true_and] at hd); simp [yielded, hd]; done)))); (focus (intro u w1 hw hd; (try simp only [depH] at hd); (try simp only [ext] at hd); (try simp only [extU] at hd); (try simp only [Nat.reduceAdd] at hd); (try simp only [Nat.reduceEqDiff] at hd); (try simp only [reduceIte] at hd); (try simp only [and_true] at hd); (try simp only [true_and] at hd); have hc' := hw.cell; first | (go_simp; exact rfl) | (go_simp; go_at_call 73; ((with_reducible refine (hi _ (hS _ hw)).mono ?_)); rintro e w'' ⟨rfl, hb⟩; refine ⟨?_, hb⟩; exact rfl) | (go_simp; go_at_call 64; ((with_reducible refine (hde _).mono ?_)); rintro e w'' ⟨rfl, hb⟩; refine ⟨?_, hb⟩; exact rfl) | (go_simp; go_at_call 74; ((with_reducible refine (hnt _ (hS _ hw)).mono ?_)); rintro e w'' ⟨rfl, hb⟩; refine ⟨?_, hb⟩; exact rfl)))) | ((with_reducible refine flow_skipg (j := ?_) (b := ?_) ?_ ?_ ?_); rotate_left 2; (focus (with_reducible rfl)); (focus (intro u w1 hw hd; (try simp only [depH] at hd); (try simp only [ext] at hd); (try simp only [extU] at hd); (try simp only [Nat.reduceAdd] at hd); (try simp only [Nat.reduceEqDiff] at hd); (try simp only [reduceIte] at hd); (try simp only [and_true] at hd); (try simp only [true_and] at hd); simp [yielded, hd]; done))) | ((with_reducible refine flow_alloc (t := ?_) (zs := ?_) ?_ ?_ ?_ ?_); rotate_left 2; (focus (with_reducible rfl)); (focus rfl); (focus (intro u w1; go_simp; exact rfl)))))
    (try clear hc hf h); intro u w' h ha hdi; replace h := h.ins; (try simp only [World.size_alloc] at h); (try dsimp only at ha); (repeat rw [World.size_alloc] at ha); (try simp only [allH] at ha); (try simp only [ext] at ha); (try simp only [extU] at ha); (try simp only [Nat.reduceAdd] at ha); (try simp only [Nat.reduceEqDiff] at ha); (try simp only [reduceIte] at ha); (try simp only [and_true] at ha); (try simp only [true_and] at ha); have hc := h.cell; have hf := h.frozen
    (try obtain ha := ha); (try dsimp only);  simp only [ha]; clear ha hdi 
    have hin3 := hin2.call h.bel
    clear h hc hf
    go_wp2_with fail
    go_ret
    exact ⟨str_eq (by rw [show (⟨#[47]⟩ : ByteArray) = ⟨[47].toArray⟩ from rfl, bcat, bcat, List.append_assoc]; rfl), hin3.bel⟩
end Gus
end
section
/- The text of a sparse matrix. -/
namespace Gus
open Go Go.RowKit Go.Proofs
def itemT (x : Nat × Nat × Rat) : List UInt8 := 32 :: (natT x.1 ++ 32 :: (natT x.2.1 ++ 32 :: (ratT x.2.2 ++ [59])))
def matT (r c : Nat) (f : Nat → Nat → Rat) : List UInt8 := natT r ++ 32 :: (natT c ++ 58 :: (items r c f).flatMap itemT)
/-- fracs.Text is right at q, in worlds beyond w0 -/
def RatTx (w0 : World) (q : Rat) : Prop := ∀ W, In w0.heap.size w0 W → Calls Tryz.prog 38 #[fracV q] W fun e w' => e = .returned (strV (ratT q)) ∧ Below W.heap.size W w'
theorem itoa_small (i : Nat) (hi : i < 100) (W : World) : Calls Tryz.prog 35 #[.int .i64 i] W fun e w' => e = .returned (strV (natT i)) ∧ Below W.heap.size W w' :=
  (Tryz.strconv_Itoa_small i hi W).mono fun e w' h => ⟨h.1, by rw [h.2]; exact Below.refl _ _⟩
set_option maxRecDepth 100000 in
set_option maxHeartbeats 2000000 in
theorem text1_any (w0 W : World) (q : Nat) (out : List UInt8) (i k : Nat) (x : Rat) (hq : Bx W q 9 [strV out]) (hin : In w0.heap.size w0 W) (hx : RatTx w0 x) (hi : i < 100) (hk : k < 100) (hlo : out.length ≤ 4611686018427387904) (hlx : (ratT x).length ≤ 1099511627776) :
    Calls Tryz.prog 37 #[.int .i64 i, .int .i64 k, fracV x, .pointer (some ⟨q, 0, none⟩)] W fun e w' => e = .returned (.tuple #[]) ∧ Bx w' q 9 [strV (out ++ itemT (i, k, x))] ∧ W.grownBy w' (some q) := by
  have h1 := itoa_small i hi
  have h2 := itoa_small k hk
  have hli := natT_small hi
  have hlk := natT_small hk
  have h3 : ∀ W1, St W W1 → Calls Tryz.prog 38 #[fracV x] W1 fun e w' => e = .returned (strV (ratT x)) ∧ Below W1.heap.size W1 w' := fun W1 hs => hx _ (hin.call hs)
  unfold itemT
  simp only
  generalize natT i = li at *
  generalize natT k = lk at *
  generalize ratT x = lx at *
  obtain ⟨A1, A2, A3, A4, A5, hA⟩ : ∃ A1 A2 A3 A4 A5, fracV x = .agg #[.int .u64 A1, .string A2, .bool A3, .int .u64 A4, .string A5] := ⟨_, _, _, _, _, rfl⟩
  rw [hA] at h3 ⊢
  clear hx hA hi hk
  have hq0 := hq.c0
  have hql := hq.lt
  go_enter Tryz.func37, Tryz.ntmps37
  go_upto_region 1 with fail
  obtain ⟨X, hX⟩ : ∃ X, X = W.heap.size := ⟨_, rfl⟩
  have bx := Bx.new_at W #[.int .u64 A1, .string A2, .bool A3, .int .u64 A4, .string A5] 56 hX
  have bq := hq.alloc (.cells #[.int .u64 A1, .string A2, .bool A3, .int .u64 A4, .string A5] 56)
  have hg := World.grownBy_alloc W (.cells #[.int .u64 A1, .string A2, .bool A3, .int .u64 A4, .string A5] 56) (some q)
  have hS : ∀ W1, St (W.alloc (.cells #[.int .u64 A1, .string A2, .bool A3, .int .u64 A4, .string A5] 56)) W1 → St W W1 := fun W1 hs => St.trans ((Below.refl _ _).alloc (Nat.le_refl _) _) hs
  rw [← hX]
  clear hX hq hq0 hql hin
  generalize W.alloc (.cells #[.int .u64 A1, .string A2, .bool A3, .int .u64 A4, .string A5] 56) = W1 at *
  have q0 := bq.c0
  have hql := bq.lt
  have x0 := bx.c0
  have x1 := bx.c1
  have x2 := bx.c2
  have x3 := bx.c3
  have x4 := bx.c4
  have hxl := bx.lt
  have e1 : ¬ 9223372036854775807 < 1 + li.length := by omega
  have e2 : ¬ 9223372036854775807 < 1 + li.length + 1 := by omega
  have e3 : ¬ 9223372036854775807 < 1 + li.length + 1 + lk.length := by omega
  have e4 : ¬ 9223372036854775807 < 1 + li.length + 1 + lk.length + 1 := by omega
  have e5 : ¬ 9223372036854775807 < 1 + li.length + 1 + lk.length + 1 + lx.length := by omega
  have e6 : ¬ 9223372036854775807 < 1 + li.length + 1 + lk.length + 1 + lx.length + 1 := by omega
  have e7 : ¬ 9223372036854775807 < out.length + (1 + li.length + 1 + lk.length + 1 + lx.length + 1) := by omega
  have HG := Lib.hid hg
  clear hg hlo hlx hli hlk
  refine wp_region_flow 14 (by kernel_rfl) (by kernel_rfl) (fun _ _ d _ _ h => by cases d <;> exact h) ?_; simp only [List.take_succ_cons, List.take_zero, List.drop_succ_cons, List.drop_zero]; simp only [putAll, Act.put, List.setIfInBounds_toArray, List.set]; (try simp only [Nat.reduceAdd]); (try simp only [Nat.zero_add]); (repeat (first | ((with_reducible refine flow_float (v := ?_) ?_ ?_ ?_); rotate_left 1; (focus (with_reducible rfl)); (focus (intro u w1 hw hd w2; (try simp only [depH] at hd); (try simp only [ext] at hd); (try simp only [extU] at hd); (try simp only [Nat.reduceAdd] at hd); (try simp only [Nat.reduceEqDiff] at hd); (try simp only [reduceIte] at hd); (try simp only [and_true] at hd); (try simp only [true_and] at hd); go_simp; exact rfl))) | ((first | ((with_reducible refine flow_pure0 (v := ?_) ?_ ?_ ?_ ?_); rotate_left 1; (focus (with_reducible rfl)); (focus rfl)) | ((with_reducible refine flow_pureg (v := ?_) (j := ?_) (b := ?_) ?_ ?_ ?_ ?_); rotate_left 3; (focus (with_reducible rfl)); (focus (intro u w1 hw hd; (try simp only [depH] at hd); (try simp only [ext] at hd); (try simp only [extU] at hd); (try simp only [Nat.reduceAdd] at hd); (try simp only [Nat.reduceEqDiff] at hd); (try simp only [reduceIte] at hd); (try simp only [and_true] at hd); (try simp only [true_and] at hd); simp [yielded, hd]; done)))); (focus (intro u w1 hw hd; (try simp only [depH] at hd); (try simp only [ext] at hd); (try simp only [extU] at hd); (try simp only [Nat.reduceAdd] at hd); (try simp only [Nat.reduceEqDiff] at hd); (try simp only [reduceIte] at hd); (try simp only [and_true] at hd); (try simp only [true_and] at hd); have hc' := hw.cell; first | (go_simp; exact rfl) | (go_simp; go_at_call 35; ((with_reducible refine (h1 _).mono ?_)); rintro e w'' ⟨rfl, hb⟩; refine ⟨?_, hb⟩; exact rfl) | (go_simp; go_at_call 35; ((with_reducible refine (h2 _).mono ?_)); rintro e w'' ⟨rfl, hb⟩; refine ⟨?_, hb⟩; exact rfl) | (go_simp; go_at_call 38; ((with_reducible refine (h3 _ (hS _ hw)).mono ?_)); rintro e w'' ⟨rfl, hb⟩; refine ⟨?_, hb⟩; exact rfl)))) | ((with_reducible refine flow_skipg (j := ?_) (b := ?_) ?_ ?_ ?_); rotate_left 2; (focus (with_reducible rfl)); (focus (intro u w1 hw hd; (try simp only [depH] at hd); (try simp only [ext] at hd); (try simp only [extU] at hd); (try simp only [Nat.reduceAdd] at hd); (try simp only [Nat.reduceEqDiff] at hd); (try simp only [reduceIte] at hd); (try simp only [and_true] at hd); (try simp only [true_and] at hd); simp [yielded, hd]; done))) | ((with_reducible refine flow_alloc (t := ?_) (zs := ?_) ?_ ?_ ?_ ?_); rotate_left 2; (focus (with_reducible rfl)); (focus rfl); (focus (intro u w1; go_simp; exact rfl)))))
  (try clear hc hf h); intro u w' h ha hdi; replace h := h.ins; (try simp only [World.size_alloc] at h); (try dsimp only at ha); (repeat rw [World.size_alloc] at ha); (try simp only [allH] at ha); (try simp only [ext] at ha); (try simp only [extU] at ha); (try simp only [Nat.reduceAdd] at ha); (try simp only [Nat.reduceEqDiff] at ha); (try simp only [reduceIte] at ha); (try simp only [and_true] at ha); (try simp only [true_and] at ha); have hc := h.cell; have hf := h.frozen
  (try obtain ha := ha); (try dsimp only);  simp only [ha]; clear ha hdi 
  have bq2 := bq.below h.bel hql
  have hg2 := gr_bel HG.out h.bel
  have q2 := bq2.c0
  have qf := bq2.frozen 0
  have hql2 := bq2.lt
  have H1 := Lib.hid bq2
  have H2 := Lib.hid hg2
  clear h hc hf bq2 hg2 HG bq bx
  go_wp2_with fail
  go_end0
  have e : ({ data := out.toArray } ++ ({ data := #[32] } ++ { data := li.toArray } ++ { data := #[32] } ++ { data := lk.toArray } ++ { data := #[32] } ++ { data := lx.toArray } ++ { data := #[59] }) : ByteArray) = ⟨(out ++ 32 :: (li ++ 32 :: (lk ++ 32 :: (lx ++ [59])))).toArray⟩ := by
    rw [show (⟨#[32]⟩ : ByteArray) = ⟨[32].toArray⟩ from rfl, show (⟨#[59]⟩ : ByteArray) = ⟨[59].toArray⟩ from rfl]
    simp only [bcat]
    simp
  rw [e]
  exact ⟨rfl, H1.out.set 0 _, H2.out.trans (gr_cell _ ⟨q, 0, none⟩ _)⟩
theorem itemT_length {i k : Nat} {x : Rat} (hi : i < 100) (hk : k < 100) {m : Nat} (hx : (ratT x).length ≤ m) : (itemT (i, k, x)).length ≤ m + 8 := by
  have := natT_small hi
  have := natT_small hk
  unfold itemT
  simp
  omega
set_option maxRecDepth 100000 in
set_option maxHeartbeats 2000000 in
theorem stext_any (w0 w : World) (v : Value) (r c : Nat) (f : Nat → Nat → Rat) (m : Nat) (hS : SpM w v r c f) (hin : In w0.heap.size w0 w) (hr : r < 100) (hc : c < 100) (hm : m ≤ 1099511627776) (hx : ∀ i k, i < r → k < c → RatTx w0 (f i k) ∧ (ratT (f i k)).length ≤ m) :
    Calls Tryz.prog 14 #[v] w fun e w' => e = .returned (strV (matT r c f)) ∧ Below w.heap.size w w' := by
  have hck := fun W (h : Below w.heap.size w W) => scheck_ok (hS.call h) (by omega) (by omega)
  have h1 := itoa_small r hr
  have h2 := itoa_small c hc
  have hlr := natT_small hr
  have hlc := natT_small hc
  obtain ⟨a, cap, rfl⟩ := hS.shape
  have HS := Lib.hid hS
  have HX := Lib.hid hx
  have HI := Lib.hid hin
  clear hS hx hin
  go_enter Tryz.func14, Tryz.ntmps14
  go_wp2_with fail
  ((with_reducible refine (hck _ ?_).mono ?_))
  · exact ((In.self w).alloc _).bel
  rintro e w1 ⟨rfl, hb1⟩
  obtain ⟨X, hX⟩ : ∃ X, X = w.heap.size := ⟨_, rfl⟩
  have hin1 : In X w w1 := by rw [hX]; exact ((In.self w).alloc _).call hb1
  have bx1 := (Bx.new_at w #[.int .i64 r, .int .i64 c, .slice a r cap] 63 hX).call hb1
  rw [← hX]
  have HW := Lib.hid hX
  clear hX hb1 hck
  have x0 := bx1.c0
  have x1 := bx1.c1
  have hxl := bx1.lt
  go_wp2_with fail
  have h := In.self w1
  have hc := h.cell
  have e1 : ¬ 9223372036854775807 < (natT r).length + 1 := by omega
  have e2 : ¬ 9223372036854775807 < (natT r).length + 1 + (natT c).length := by omega
  have e3 : ¬ 9223372036854775807 < (natT r).length + 1 + (natT c).length + 1 := by omega
  refine wp_region_flow 10 (by kernel_rfl) (by kernel_rfl) (fun _ _ d _ _ h => by cases d <;> exact h) ?_; simp only [List.take_succ_cons, List.take_zero, List.drop_succ_cons, List.drop_zero]; simp only [putAll, Act.put, List.setIfInBounds_toArray, List.set]; (try simp only [Nat.reduceAdd]); (try simp only [Nat.zero_add]); (repeat (first | ((with_reducible refine flow_float (v := ?_) ?_ ?_ ?_); rotate_left 1; (focus (with_reducible rfl)); (focus (intro u w1 hw hd w2; (try simp only [depH] at hd); (try simp only [ext] at hd); (try simp only [extU] at hd); (try simp only [Nat.reduceAdd] at hd); (try simp only [Nat.reduceEqDiff] at hd); (try simp only [reduceIte] at hd); (try simp only [and_true] at hd); (try simp only [true_and] at hd); go_simp; exact rfl))) | ((first | ((with_reducible refine flow_pure0 (v := ?_) ?_ ?_ ?_ ?_); rotate_left 1; (focus (with_reducible rfl)); (focus rfl)) | ((with_reducible refine flow_pureg (v := ?_) (j := ?_) (b := ?_) ?_ ?_ ?_ ?_); rotate_left 3; (focus (with_reducible rfl)); (focus (intro u w1 hw hd; (try simp only [depH] at hd); (try simp only [ext] at hd); (try simp only [extU] at hd); (try simp only [Nat.reduceAdd] at hd); (try simp only [Nat.reduceEqDiff] at hd); (try simp only [reduceIte] at hd); (try simp only [and_true] at hd); (try simp only [true_and] at hd); simp [yielded, hd]; done)))); (focus (intro u w1 hw hd; (try simp only [depH] at hd); (try simp only [ext] at hd); (try simp only [extU] at hd); (try simp only [Nat.reduceAdd] at hd); (try simp only [Nat.reduceEqDiff] at hd); (try simp only [reduceIte] at hd); (try simp only [and_true] at hd); (try simp only [true_and] at hd); have hc' := hw.cell; first | (go_simp; exact rfl) | (go_simp; go_at_call 35; ((with_reducible refine (h1 _).mono ?_)); rintro e w'' ⟨rfl, hb⟩; refine ⟨?_, hb⟩; exact rfl) | (go_simp; go_at_call 35; ((with_reducible refine (h2 _).mono ?_)); rintro e w'' ⟨rfl, hb⟩; refine ⟨?_, hb⟩; exact rfl)))) | ((with_reducible refine flow_skipg (j := ?_) (b := ?_) ?_ ?_ ?_); rotate_left 2; (focus (with_reducible rfl)); (focus (intro u w1 hw hd; (try simp only [depH] at hd); (try simp only [ext] at hd); (try simp only [extU] at hd); (try simp only [Nat.reduceAdd] at hd); (try simp only [Nat.reduceEqDiff] at hd); (try simp only [reduceIte] at hd); (try simp only [and_true] at hd); (try simp only [true_and] at hd); simp [yielded, hd]; done))) | ((with_reducible refine flow_alloc (t := ?_) (zs := ?_) ?_ ?_ ?_ ?_); rotate_left 2; (focus (with_reducible rfl)); (focus rfl); (focus (intro u w1; go_simp; exact rfl)))))
  (try clear hc hf h); intro u w' h ha hdi; replace h := h.ins; (try simp only [World.size_alloc] at h); (try dsimp only at ha); (repeat rw [World.size_alloc] at ha); (try simp only [allH] at ha); (try simp only [ext] at ha); (try simp only [extU] at ha); (try simp only [Nat.reduceAdd] at ha); (try simp only [Nat.reduceEqDiff] at ha); (try simp only [reduceIte] at ha); (try simp only [and_true] at ha); (try simp only [true_and] at ha); have hc := h.cell; have hf := h.frozen
  obtain ⟨ha, q, hu, hqX, bq⟩ := ha
  (try obtain ha := ha); (try dsimp only);  simp only [ha, hu]; clear ha hdi hu
  have hin2 := hin1.call h.bel
  have bx2 := bx1.below h.bel hxl
  have x0 := bx2.c0
  have x1 := bx2.c1
  have x2 := bx2.c2
  have hxl2 := bx2.lt
  have hXq : X < q := by omega
  have qf := bq.frozen 0
  have qc := bq.c0
  have hql := bq.lt
  clear h hc hf hin1 bx1 h1 h2 e1 e2 e3
  go_wp2_with fail
  have e : ({ data := (natT r).toArray } ++ { data := #[32] } ++ { data := (natT c).toArray } ++ { data := #[58] } : ByteArray) = ⟨(natT r ++ 32 :: (natT c ++ [58])).toArray⟩ := by
    rw [show (⟨#[32]⟩ : ByteArray) = ⟨[32].toArray⟩ from rfl, show (⟨#[58]⟩ : ByteArray) = ⟨[58].toArray⟩ from rfl]
    simp only [bcat]
    simp
  rw [e]
  have bq3 := bq.set 0 (strV (natT r ++ 32 :: (natT c ++ [58])))
  have hin3 := hin2.setCell (p := ⟨q, 0, none⟩) (by simp; omega) (strV (natT r ++ 32 :: (natT c ++ [58])))
  have bx3 := bx2.other (a := ⟨q, 0, none⟩) (by simp; omega) (strV (natT r ++ 32 :: (natT c ++ [58])))
  clear qf qc x0 x1 x2 bq bx2 hin2 e hql hxl2
  generalize w'.setCell ⟨q, 0, none⟩ (strV (natT r ++ 32 :: (natT c ++ [58]))) = W3 at *
  have hin4 : In w.heap.size w W3 := by rw [← HW.out]; exact hin3
  have hT := items_length r c f
  have hT4 : (items r c f).length ≤ 10000 := Nat.le_trans hT (Nat.mul_le_mul (show r ≤ 100 by omega) (show c ≤ 100 by omega))
  have hm1 : ∀ t : List (Nat × Nat × Rat), t.length ≤ (items r c f).length → t.length * (m + 8) ≤ 10000 * (m + 8) := fun t ht => Nat.mul_le_mul_right _ (by omega)
  have he := each_any (fun t W => ∃ out : List UInt8, Bx W q 9 [strV out] ∧ In w.heap.size w W ∧ (∀ x ∈ t, x ∈ items r c f) ∧ out ++ t.flatMap itemT = matT r c f ∧ out.length + t.length * (m + 8) ≤ 100 + 10000 * (m + 8))
    w W3 (.agg #[.int .i64 r, .int .i64 c, .slice a r cap]) r c (mrows r c f) 37 #[.pointer (some ⟨q, 0, none⟩)] (enters_of Tryz.func37 (by kernel_rfl) rfl) HS.out (fun t W h => by obtain ⟨_, _, h2, _⟩ := h; exact h2)
    (fun t W W' h hb => by obtain ⟨out, h1, h2, h3⟩ := h; exact ⟨out, h1.call hb, h2.call hb, h3⟩)
    (fun i k x t W h => by
      obtain ⟨out, h1, h2, h3, h4, h5⟩ := h
      have hx := mem_items.1 (h3 _ (.head _))
      have hf := HX.out i k hx.1 hx.2.1
      rw [← hx.2.2.2] at hf
      have hit := itemT_length (i := i) (k := k) (by omega) (by omega) hf.2
      rw [List.length_cons, Nat.add_mul, Nat.one_mul] at h5
      refine (text1_any w0 W q out i k x h1 (h2.out HI.out HI.out.siz) hf.1 (by omega) (by omega) (by omega) (by omega)).mono ?_
      rintro e w' ⟨rfl, h6, h7⟩
      refine ⟨rfl, _, h6, ⟨h2.bel.grown h7 h2.siz (fun k h => by cases h; rw [← HW.out]; omega), Nat.le_trans h2.siz h7.size⟩, fun y hy => h3 y (List.mem_cons_of_mem _ hy), ?_, ?_⟩
      · rw [List.append_assoc]; rw [List.flatMap_cons] at h4; exact h4
      · rw [List.length_append]; omega)
    (by rw [mrows_length]; omega) (fun i => Nat.le_trans (mrows_row r c f i) (by omega))
    ⟨_, bq3, hin4, fun x hx => hx, by unfold matT items; simp, by
      have := hm1 (itemsF 0 (mrows r c f)) (Nat.le_refl _)
      simp
      omega⟩
  ((with_reducible refine he.mono ?_))
  rintro e w4 ⟨rfl, out, h1, h2, _, h4, _⟩
  rw [List.flatMap_nil, List.append_nil] at h4
  subst h4
  have q0 := h1.c0
  have hql := h1.lt
  clear he bq3 hin3 bx3 hin4 hT hT4 hm1
  go_wp2_with fail
  go_ret
  exact ⟨rfl, h2.bel⟩
end Gus
end
