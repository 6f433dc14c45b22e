/- Proved here: parts of the proof: ShelfV VTx WrkA. Conditions: those that each theorem states. -/
import Derived.Shelf.Strings.Builder1
import Derived.Shelf.Strings.Builder2
import Derived.Shelf.Strings.OnBuilder
import Derived.Shelf.Small.Bits
import Derived.Shelf.Small.Wraps
import Derived.Shelf.Strings.BuilderF
import Derived.Shelf.Strings.BuilderK
import Derived.Shelf.Strings.Builder2Cap
import Derived.Shelf.Strings.Prefix
import Derived.Shelf.Bits.Mul64
import Derived.Shelf.Strings.Repeat
import Derived.Shelf.Strings.BuilderCap
import Derived.Shelf.Slices.ReverseS
import Derived.Shelf.Slices.SearchI
import Derived.Shelf.Slices.Cells
import Derived.Ground.Names2Prog
import Derived.Test.YtakblfhmllgepaaGreatDoorProg
import Derived.Test.YtakblfhmllgepaaGreatDoorVecQ
section
/- Contracts of Go's library at this translation, laid out of the guide's shelf. -/
namespace Go.Proofs
open Go.Shelf
def Tryz.lays156_ren : Go.Shelf.Ren := ⟨fun | 156 => 52 | 165 => 81 | 166 => 82 | 169 => 83 | 240 => 122 | 241 => 123 | 276 => 146 | 277 => 147 | n => n, fun | 31 => 115 | 9 => 9 | 3 => 3 | 4 => 4 | 0 => 0 | 20 => 20 | 72 => 146 | 76 => 150 | 70 => 143 | 37 => 144 | 75 => 149 | 127 => 189 | 164 => 211 | 5 => 5 | 80 => 152 | n => n, fun | n => n⟩
theorem Tryz.lays156 : Go.Proofs.Lays.n156 Tryz.prog Tryz.lays156_ren := {
  mixed := by kernel_rfl
  f156 := Tryz.func52.trans (congrArg some (by kernel_rfl))
  f165 := Tryz.func81.trans (congrArg some (by kernel_rfl))
  f166 := Tryz.func82.trans (congrArg some (by kernel_rfl))
  f169 := Tryz.func83.trans (congrArg some (by kernel_rfl))
  f240 := Tryz.func122.trans (congrArg some (by kernel_rfl))
  f241 := Tryz.func123.trans (congrArg some (by kernel_rfl))
  f276 := Tryz.func146.trans (congrArg some (by kernel_rfl))
  f277 := Tryz.func147.trans (congrArg some (by kernel_rfl))
  t0 := Tryz.underlying0
  a0 := Tryz.isAgg0
  z0 := Tryz.sizeOf0
  v0 := Tryz.zeroValue0
  t3 := Tryz.underlying3
  a3 := Tryz.isAgg3
  z3 := Tryz.sizeOf3
  v3 := Tryz.zeroValue3
  t4 := Tryz.underlying4
  a4 := Tryz.isAgg4
  z4 := Tryz.sizeOf4
  v4 := Tryz.zeroValue4
  t9 := Tryz.underlying9
  a9 := Tryz.isAgg9
  z9 := Tryz.sizeOf9
  v9 := Tryz.zeroValue9
  t20 := Tryz.underlying20
  a20 := Tryz.isAgg20
  z20 := Tryz.sizeOf20
  v20 := Tryz.zeroValue20
  t31 := Tryz.underlying115
  a31 := Tryz.isAgg115
  z31 := Tryz.sizeOf115
  v31 := Tryz.zeroValue115
  t37 := Tryz.underlying144
  a37 := Tryz.isAgg144
  z37 := Tryz.sizeOf144
  v37 := Tryz.zeroValue144
  t70 := Tryz.underlying143
  a70 := Tryz.isAgg143
  z70 := Tryz.sizeOf143
  v70 := Tryz.zeroValue143
  t72 := Tryz.underlying146
  a72 := Tryz.isAgg146
  z72 := Tryz.sizeOf146
  v72 := Tryz.zeroValue146
  t75 := Tryz.underlying149
  a75 := Tryz.isAgg149
  z75 := Tryz.sizeOf149
  v75 := Tryz.zeroValue149
  t76 := Tryz.underlying150
  a76 := Tryz.isAgg150
  z76 := Tryz.sizeOf150
  v76 := Tryz.zeroValue150
  t127 := Tryz.underlying189
  a127 := Tryz.isAgg189
  z127 := Tryz.sizeOf189
  v127 := Tryz.zeroValue189
  t164 := Tryz.underlying211
  a164 := Tryz.isAgg211
  z164 := Tryz.sizeOf211
  v164 := Tryz.zeroValue211 }
theorem Tryz.Builder_Extra_156 : Builder.Extra Tryz.prog Tryz.lays156_ren := {
  sizeBuilder := by kernel_rfl
  liesBuilder := by kernel_rfl
  t5 := Tryz.underlying5
  a5 := Tryz.isAgg5
  z5 := Tryz.sizeOf5
  v5 := Tryz.zeroValue5
  infoByte := by kernel_rfl
  cellsByte := by kernel_rfl
  sizeByte := by kernel_rfl
  neB5 := by decide }
open Go.RowKit in
/-- strings.Join: "Join concatenates the elements of its first argument to create a single string. The separator string sep is placed between elements in the resulting string.": HOWEVER MANY ELEMENTS. Below the heap's end the world is as it was. (LAID: no walk: one application.) -/
theorem Tryz.strings_Join (bk o c : Nat) (xs : List ByteArray) (sep : ByteArray) (w : World) (hcells : ∀ (j : Nat) x, xs[j]? = some x → w.cell? ⟨bk, o + j, none⟩ = some (.string x)) (hbk : bk < w.heap.size) (hN : xs.length ≤ 140737488355328) (hcap : xs.length ≤ c) (hlen : (Lib.join (xs.map (·.data.toList)) sep.data.toList).length ≤ 140737488355328) :
    Calls Tryz.prog 52 #[.slice (some ⟨bk, o, none⟩) xs.length c, .string sep] w fun e w' => e = .returned (.string ⟨(Lib.join (xs.map (·.data.toList)) sep.data.toList).toArray⟩) ∧ Below w.heap.size w w' := Any.strings_Join Tryz.lays156 Tryz.Builder_Extra_156 bk o c xs sep w hcells hbk hN hcap hlen
def Tryz.lays105_ren : Go.Shelf.Ren := ⟨fun | 105 => 120 | 212 => 143 | 99 => 144 | 165 => 81 | 166 => 82 | 170 => 145 | 169 => 83 | 263 => 158 | 264 => 102 | 206 => 159 | 240 => 122 | 241 => 123 | 276 => 146 | 277 => 147 | n => n, fun | 9 => 9 | 3 => 3 | 4 => 4 | 20 => 20 | 0 => 0 | 46 => 132 | 109 => 207 | 5 => 5 | 72 => 146 | 76 => 150 | 51 => 33 | 146 => 194 | 53 => 48 | 148 => 167 | 70 => 143 | 37 => 144 | 75 => 149 | 127 => 189 | 164 => 211 | 80 => 152 | n => n, fun | n => n⟩
theorem Tryz.lays105 : Go.Proofs.Lays.n105 Tryz.prog Tryz.lays105_ren := {
  mixed := by kernel_rfl
  f99 := Tryz.func144.trans (congrArg some (by kernel_rfl))
  f105 := Tryz.func120.trans (congrArg some (by kernel_rfl))
  f165 := Tryz.func81.trans (congrArg some (by kernel_rfl))
  f166 := Tryz.func82.trans (congrArg some (by kernel_rfl))
  f169 := Tryz.func83.trans (congrArg some (by kernel_rfl))
  f170 := Tryz.func145.trans (congrArg some (by kernel_rfl))
  f206 := Tryz.func159.trans (congrArg some (by kernel_rfl))
  f212 := Tryz.func143.trans (congrArg some (by kernel_rfl))
  f240 := Tryz.func122.trans (congrArg some (by kernel_rfl))
  f241 := Tryz.func123.trans (congrArg some (by kernel_rfl))
  f263 := Tryz.func158.trans (congrArg some (by kernel_rfl))
  f264 := Tryz.func102.trans (congrArg some (by kernel_rfl))
  f276 := Tryz.func146.trans (congrArg some (by kernel_rfl))
  f277 := Tryz.func147.trans (congrArg some (by kernel_rfl))
  t0 := Tryz.underlying0
  a0 := Tryz.isAgg0
  z0 := Tryz.sizeOf0
  v0 := Tryz.zeroValue0
  t3 := Tryz.underlying3
  a3 := Tryz.isAgg3
  z3 := Tryz.sizeOf3
  v3 := Tryz.zeroValue3
  t4 := Tryz.underlying4
  a4 := Tryz.isAgg4
  z4 := Tryz.sizeOf4
  v4 := Tryz.zeroValue4
  t5 := Tryz.underlying5
  a5 := Tryz.isAgg5
  z5 := Tryz.sizeOf5
  v5 := Tryz.zeroValue5
  t9 := Tryz.underlying9
  a9 := Tryz.isAgg9
  z9 := Tryz.sizeOf9
  v9 := Tryz.zeroValue9
  t20 := Tryz.underlying20
  a20 := Tryz.isAgg20
  z20 := Tryz.sizeOf20
  v20 := Tryz.zeroValue20
  t37 := Tryz.underlying144
  a37 := Tryz.isAgg144
  z37 := Tryz.sizeOf144
  v37 := Tryz.zeroValue144
  t46 := Tryz.underlying132
  a46 := Tryz.isAgg132
  z46 := Tryz.sizeOf132
  v46 := Tryz.zeroValue132
  t51 := Tryz.underlying33
  a51 := Tryz.isAgg33
  z51 := Tryz.sizeOf33
  v51 := Tryz.zeroValue33
  t53 := Tryz.underlying48
  a53 := Tryz.isAgg48
  z53 := Tryz.sizeOf48
  v53 := Tryz.zeroValue48
  t70 := Tryz.underlying143
  a70 := Tryz.isAgg143
  z70 := Tryz.sizeOf143
  v70 := Tryz.zeroValue143
  t72 := Tryz.underlying146
  a72 := Tryz.isAgg146
  z72 := Tryz.sizeOf146
  v72 := Tryz.zeroValue146
  t75 := Tryz.underlying149
  a75 := Tryz.isAgg149
  z75 := Tryz.sizeOf149
  v75 := Tryz.zeroValue149
  t76 := Tryz.underlying150
  a76 := Tryz.isAgg150
  z76 := Tryz.sizeOf150
  v76 := Tryz.zeroValue150
  t109 := Tryz.underlying207
  a109 := Tryz.isAgg207
  z109 := Tryz.sizeOf207
  v109 := Tryz.zeroValue207
  t127 := Tryz.underlying189
  a127 := Tryz.isAgg189
  z127 := Tryz.sizeOf189
  v127 := Tryz.zeroValue189
  t146 := Tryz.underlying194
  a146 := Tryz.isAgg194
  z146 := Tryz.sizeOf194
  v146 := Tryz.zeroValue194
  t148 := Tryz.underlying167
  a148 := Tryz.isAgg167
  z148 := Tryz.sizeOf167
  v148 := Tryz.zeroValue167
  t164 := Tryz.underlying211
  a164 := Tryz.isAgg211
  z164 := Tryz.sizeOf211
  v164 := Tryz.zeroValue211 }
theorem Tryz.Builder_Extra_105 : Builder.Extra Tryz.prog Tryz.lays105_ren := {
  sizeBuilder := by kernel_rfl
  liesBuilder := by kernel_rfl
  t5 := Tryz.underlying5
  a5 := Tryz.isAgg5
  z5 := Tryz.sizeOf5
  v5 := Tryz.zeroValue5
  infoByte := by kernel_rfl
  cellsByte := by kernel_rfl
  sizeByte := by kernel_rfl
  neB5 := by decide }
open Go.RowKit Go.Lib in
/-- **strings.Repeat: count ≥ 0, the result within one allocation: count copies of s.** (LAID: no walk: one application.) -/
theorem Tryz.strings_Repeat (s : ByteArray) (c : Nat) (w : World) (hc : c ≤ 9223372036854775807) (hlen : s.size * c ≤ 140737488355328) :
    Calls Tryz.prog 120 #[.string s, .int .i64 c] w fun e w' => e = .returned (.string ⟨(Lib.repeatL s.data.toList c).toArray⟩) ∧ Below w.heap.size w w' := Any.strings_Repeat Tryz.lays105 Tryz.Builder_Extra_105 s c w hc hlen
def Tryz.laysNm217_ren : Go.Shelf.Ren := ⟨fun | 17 => 121 | n => n, fun | 24 => 115 | 9 => 9 | 3 => 3 | 4 => 4 | 0 => 0 | n => n, fun | n => n⟩
theorem Tryz.laysNm217 : Go.Proofs.Lays2.n17 Tryz.prog Tryz.laysNm217_ren := {
  mixed := by kernel_rfl
  f17 := Tryz.func121.trans (congrArg some (by kernel_rfl))
  t0 := Tryz.underlying0
  a0 := Tryz.isAgg0
  z0 := Tryz.sizeOf0
  v0 := Tryz.zeroValue0
  t3 := Tryz.underlying3
  a3 := Tryz.isAgg3
  z3 := Tryz.sizeOf3
  v3 := Tryz.zeroValue3
  t4 := Tryz.underlying4
  a4 := Tryz.isAgg4
  z4 := Tryz.sizeOf4
  v4 := Tryz.zeroValue4
  t9 := Tryz.underlying9
  a9 := Tryz.isAgg9
  z9 := Tryz.sizeOf9
  v9 := Tryz.zeroValue9
  t24 := Tryz.underlying115
  a24 := Tryz.isAgg115
  z24 := Tryz.sizeOf115
  v24 := Tryz.zeroValue115 }
open Go.RowKit Go.Lib Go.Sort in
/-- slices.Reverse at []string: "Reverse reverses the elements of the slice in place.": THE SLICE's CELLS HOLD 'zs.reverse' BEHIND THE CALL; all else is as it was, but for the count of draws (the exchange 's[i], s[j] = s[j], s[i]' draws its order, once a round). IN THE WORDS OF slices.Sort's CONTRACT: 'Holds': the cells hold zs and none is frozen; 'putRow': the world with those cells holding another array. A slice of length 0 that is not nil is among them ('zs = []'); nil: '.._nil'. (LAID: no walk: one application.) -/
theorem Tryz.slices_Reverse_string (blk off cap : Nat) (zs : List (List UInt8)) (w : World) (hH : Holds encStr w blk off zs.toArray) (hsz : zs.length ≤ 9223372036854775807) :
    Calls Tryz.prog 121 #[.slice (some ⟨blk, off, none⟩) zs.length cap] w fun e w' => e = .returned (.tuple #[]) ∧ ∃ n, w' = putRow encStr (Sort.ahead w n) blk off zs.reverse.toArray := Any.slices_Reverse_string Tryz.laysNm217 blk off cap zs w hH hsz
end Go.Proofs
end
section
/- The text of a vector. -/
namespace Gus
open Go Go.RowKit Go.Proofs
def vecT (qs : List Rat) : List UInt8 := 91 :: (Lib.join (qs.map ratT) [32] ++ [93])
theorem info_str : (Tryz.prog.info? 9).map (fun i => (i.zero, i.size, i.bytes)) = some (some (.string ⟨#[]⟩), 1, 16) := by kernel_rfl
/-- texts of which the first k are laid -/
def sv (F : Nat → List UInt8) (n k : Nat) : List Value := (List.range n).map fun i => if i < k then strV (F i) else strV []
theorem sv_length (F : Nat → List UInt8) (n k : Nat) : (sv F n k).length = n := by simp [sv]
theorem sv_zero (F : Nat → List UInt8) (n : Nat) : sv F n 0 = List.replicate n (strV []) := by
  unfold sv
  apply List.ext_getElem
  · simp
  · intro i h1 h2; simp
theorem sv_set (F : Nat → List UInt8) (n k : Nat) : (sv F n k).set k (strV (F k)) = sv F n (k + 1) := by
  apply List.ext_getElem
  · simp [sv]
  · intro i h1 h2
    simp only [sv, List.getElem_set, List.getElem_map, List.getElem_range]
    by_cases h : k = i
    · subst h; rw [if_pos rfl, if_pos (by omega)]
    · rw [if_neg h]
      by_cases h2 : i < k
      · rw [if_pos h2, if_pos (by omega)]
      · rw [if_neg h2, if_neg (by omega)]
theorem mk_strs (F : Nat → List UInt8) (L : Nat) (hL : L ≤ 4096) (w : World) : (Instr.makeSlice 115 (.int .i64 (L : Int)) (.int .i64 (L : Int))).run Tryz.prog w =
    .ok (.slice (some ⟨w.heap.size, 0, none⟩) L L) (w.alloc (.cells (sv F L 0).toArray 9)) := by
  obtain ⟨i0, hi, hz0, hz1, hz2⟩ := info_parts info_str
  have := run_make (P := Tryz.prog) w 115 9 i0 (.string ⟨#[]⟩) Tryz.underlying115 hi hz0 .i64 .i64 L L (by omega) (Int.le_refl _) (by rw [hz2]; omega) (by omega)
  rw [this]
  simp only [Int.toNat_natCast, hz1, Nat.mul_one]
  have e : madeCells (Value.string ⟨#[]⟩).cells L = (List.replicate L (strV [])).toArray := by
    apply Array.toList_inj.1
    rw [show (Value.string ⟨#[]⟩).cells = #[.string ⟨#[]⟩] from rfl, toList_madeCells_one]
  rw [e, sv_zero]
theorem lens_le {m : Nat} : ∀ (xs : List (List UInt8)), (∀ x ∈ xs, x.length ≤ m) → Lib.lens xs ≤ xs.length * m
  | [], _ => by simp [Lib.lens]
  | x :: xs, h => by
    have h1 := h x (.head _)
    have h2 := lens_le xs (fun y hy => h y (List.mem_cons_of_mem _ hy))
    have e : Lib.lens (x :: xs) = x.length + Lib.lens xs := by simp [Lib.lens]
    rw [e, List.length_cons, Nat.add_mul, Nat.one_mul]; omega
theorem join_le {m : Nat} (xs : List (List UInt8)) (h : ∀ x ∈ xs, x.length ≤ m) : (Lib.join xs [32]).length ≤ xs.length * (m + 1) := by
  cases xs with
  | nil => simp [Lib.join]
  | cons x xs =>
    have := lens_le (x :: xs) h
    rw [Lib.join_length, List.length_singleton, Nat.mul_add, Nat.mul_one]
    rw [List.length_cons] at this ⊢
    omega
set_option maxRecDepth 100000 in
set_option maxHeartbeats 2000000 in
theorem vtext_any (w0 w : World) (vv : Value) (qs : List Rat) (m : Nat) (hV : VecAt w vv qs) (hin : In w0.heap.size w0 w) (hl : qs.length ≤ 2048) (hx : ∀ i, i < qs.length → RatTx w0 (qs.getD i 0) ∧ (ratT (qs.getD i 0)).length ≤ m) (hcap : qs.length * (m + 1) ≤ 140737488355328) :
    Calls Tryz.prog 23 #[vv] w fun e w' => e = .returned (strV (vecT qs)) ∧ Below w.heap.size w w' := by
  obtain ⟨va, vc, rfl⟩ := hV.shape
  obtain ⟨L, hL⟩ : ∃ L, L = qs.length := ⟨_, rfl⟩
  have HX := Lib.hid hx
  have HV := Lib.hid hV
  have HI := Lib.hid hin
  rw [← hL] at hl ⊢
  have HL := Lib.hid hL
  obtain ⟨F, hF⟩ : ∃ F : Nat → List UInt8, ∀ i, F i = ratT (qs.getD i 0) := ⟨_, fun _ => rfl⟩
  have HF := Lib.hid hF
  clear hF
  have HMK := Lib.hid (mk_strs F L (by omega))
  obtain ⟨X, hX⟩ : ∃ X, X = w.heap.size := ⟨_, rfl⟩
  have HW := Lib.hid hX
  have hmk := HMK.out w
  have HC := Lib.hid hcap
  clear hx hV hin hL hcap
  go_enter Tryz.func23, Tryz.ntmps23
  go_wp2_with fail
  have hv := Bx.new_at w (sv F L 0).toArray 9 hX
  have hin : In X w (w.alloc (.cells (sv F L 0).toArray 9)) := by rw [hX]; exact (In.self w).alloc _
  rw [← hX]
  clear hmk hX
  generalize w.alloc (.cells (sv F L 0).toArray 9) = W1 at *
  rw [List.toList_toArray] at hv
  go_loopw [11] (fun v11 wr => ∃ k : Nat, k ≤ L ∧ v11 = .int .i64 k ∧ In X w wr ∧ Bx wr X 9 (sv F L k)) (fun v11 _ => L - (RowKit.intOf v11).toNat)
  case atStart => exact ⟨0, Nat.zero_le _, rfl, hin, hv⟩
  case round =>
    clear hin hv
    obtain ⟨k, hk, rfl, hin, hv⟩ := hrel
    by_cases hkL : k < L
    · obtain ⟨b, off, cap, A1, A2, A3, A4, A5, hva, hb, hf1, hf2, e0, e1, e2, e3, e4⟩ := HV.out.at (i := k) (by rw [← HL.out]; exact hkL)
      simp only [Value.slice.injEq] at hva
      obtain ⟨rfl, _, hcc⟩ := hva
      subst hcc
      have htx := (HX.out k (by rw [← HL.out]; exact hkL)).1
      rw [← HW.out] at hb
      rw [← hin.cell b _ hb] at e0 e1 e2 e3 e4
      have hbw : b < wr.heap.size := by have := hin.siz; omega
      have h1 := htx _ ((show In w.heap.size w (wr.alloc (.cells #[.int .u64 A1, .string A2, .bool A3, .int .u64 A4, .string A5] 56)) by rw [← HW.out]; exact hin.alloc _).out HI.out HI.out.siz)
      rw [hf2] at h1
      obtain ⟨tx, htxe⟩ : ∃ tx, tx = F k := ⟨_, rfl⟩
      rw [← HF.out k, ← htxe] at h1
      have hkI : (k : Int) < L := by omega
      have hk0 : (0 : Int) ≤ k := by omega
      have hkw : IntKind.i64.wrap ((k : Int) + 1) = ((k + 1 : Nat) : Int) := IntWalk.i64_in _ (by omega)
      have HT := Lib.hid htxe
      clear hf1 hf2 htx htxe
      go_wp2_with fail
      ((with_reducible refine (h1).mono ?_))
      rintro e w2 ⟨rfl, hb2⟩
      have hin2 := (hin.alloc _).call hb2
      have hv2 := (hv.alloc _).call hb2
      have hc2 := hv2.cell k
      rw [List.getElem?_eq_getElem (by rw [sv_length]; exact hkL)] at hc2
      have hf2 := hv2.frozen k
      have hvl := hv2.lt
      have hs := hv2.set k (strV tx)
      rw [HT.out, sv_set] at hs
      have HS := Lib.hid hs
      have HI2 := Lib.hid (hin2.setCell (p := ⟨X, k, none⟩) (Nat.le_refl _) (strV tx))
      obtain ⟨old, hold⟩ : ∃ old, old = (sv F L k)[k]'(by rw [sv_length]; exact hkL) := ⟨_, rfl⟩
      rw [← hold] at hc2
      clear hb2 hin hv e0 e1 e2 e3 e4 hbw hs h1 hin2 hv2 hold
      go_wp2_with fail
      exact ⟨⟨k + 1, by omega, by go_num, HI2.out, by have := HS.out; rw [← HT.out] at this; exact this⟩, by simp [RowKit.intOf]; omega⟩
    · have hkL' : k = L := by omega
      have hkI : ¬ (k : Int) < L := by omega
      have hxs : ((List.range L).map fun j => (⟨(F j).toArray⟩ : ByteArray)).length = L := by simp
      have hj : Lib.join (((List.range L).map fun j => (⟨(F j).toArray⟩ : ByteArray)).map (·.data.toList)) [32] = Lib.join (qs.map ratT) [32] := by
        congr 1
        rw [List.map_map]
        apply List.ext_getElem
        · rw [List.length_map, List.length_range, List.length_map, HL.out]
        · intro i h1 h2
          have hi : i < qs.length := by simpa using h2
          rw [List.getElem_map, List.getElem_map, List.getElem_range, Function.comp_apply]
          show (F i).toArray.toList = _
          rw [HF.out i, List.toList_toArray, List.getD_eq_getElem?_getD, List.getElem?_eq_getElem hi]; rfl
      have hjl : (Lib.join (qs.map ratT) [32]).length ≤ 140737488355328 := by
        refine Nat.le_trans (join_le (m := m) _ fun x hx => ?_) (by rw [List.length_map]; exact HC.out)
        obtain ⟨q, hq, rfl⟩ := List.mem_map.1 hx
        obtain ⟨i, hi, rfl⟩ := List.getElem_of_mem hq
        have := (HX.out i hi).2
        rw [List.getD_eq_getElem?_getD, List.getElem?_eq_getElem hi] at this
        exact this
      have hjoin := Tryz.strings_Join X 0 L ((List.range L).map fun j => (⟨(F j).toArray⟩ : ByteArray)) ⟨#[32]⟩ wr (fun j x hx => by
        have hjL : j < L := by
          have := (List.getElem?_eq_some_iff.1 hx).1
          rw [hxs] at this; exact this
        rw [List.getElem?_map, List.getElem?_range hjL] at hx
        rw [Nat.zero_add, hv.cell j]
        unfold sv
        rw [List.getElem?_map, List.getElem?_range hjL, hkL']
        cases hx
        simp only [Option.map_some, if_pos hjL]) hv.lt (by rw [hxs]; omega) (by rw [hxs]; exact Nat.le_refl _) (by rw [show (⟨#[32]⟩ : ByteArray).data.toList = [32] from rfl, hj]; exact hjl)
      rw [hxs, show (⟨#[32]⟩ : ByteArray).data.toList = [32] from rfl, hj] at hjoin
      obtain ⟨lj, hlj⟩ : ∃ lj, lj = Lib.join (qs.map ratT) [32] := ⟨_, rfl⟩
      rw [← hlj] at hjoin hjl
      have HLJ := Lib.hid hlj
      clear hlj
      have e1 : ¬ 9223372036854775807 < 1 + lj.length := by omega
      have e2 : ¬ 9223372036854775807 < 1 + lj.length + 1 := by omega
      have HJ := Lib.hid hjl
      have HKL := Lib.hid hkL'
      clear hxs hj hjl hv hkL'
      go_wp2_with fail
      ((with_reducible refine hjoin.mono ?_))
      rintro e w2 ⟨rfl, hb2⟩
      have hin2 := hin.call hb2
      clear hjoin hb2 hin
      go_wp2_with fail
      go_ret
      have e : ({ data := #[91] } ++ { data := lj.toArray } ++ { data := #[93] } : ByteArray) = ⟨(vecT qs).toArray⟩ := by
        unfold vecT
        rw [← HLJ.out, show (⟨#[91]⟩ : ByteArray) = ⟨[91].toArray⟩ from rfl, show (⟨#[93]⟩ : ByteArray) = ⟨[93].toArray⟩ from rfl]
        simp only [bcat]
        simp
      exact ⟨str_eq e, by rw [← HW.out]; exact hin2.bel⟩
end Gus
end
section
/- Plain facts of the chapter's example. -/
namespace Gus
open Go Go.RowKit Go.Proofs
def wf1 (i k : Nat) : Rat := if i = 0 ∧ k = 2 then 1 / 2 else 0
def wf2 (i k : Nat) : Rat := if i = 0 ∧ k = 0 then 1 else wf1 i k
def wf3 (i k : Nat) : Rat := if i = 1 ∧ k = 1 then 5 else wf2 i k
theorem two {i : Nat} (h : i < 2) : i = 0 ∨ i = 1 := by omega
theorem three {i : Nat} (h : i < 3) : i = 0 ∨ i = 1 ∨ i = 2 := by omega
theorem wf1_eq (i k : Nat) (hi : i < 2) (hk : k < 3) : wf1 i k = setF (fun _ _ => 0) 0 2 (0 + 1 / 2) i k := by
  rcases two hi with rfl | rfl <;> rcases three hk with rfl | rfl | rfl <;> decide +kernel
theorem wf2_eq (i k : Nat) (hi : i < 2) (hk : k < 3) : wf2 i k = setF wf1 0 0 (wf1 0 0 + 1) i k := by
  rcases two hi with rfl | rfl <;> rcases three hk with rfl | rfl | rfl <;> decide +kernel
theorem wf3_eq (i k : Nat) (hi : i < 2) (hk : k < 3) : wf3 i k = setF wf2 1 1 (wf2 1 1 + 5) i k := by
  rcases two hi with rfl | rfl <;> rcases three hk with rfl | rfl | rfl <;> decide +kernel
theorem wf4_eq (i k : Nat) (hi : i < 2) (hk : k < 3) : wf2 i k = setF wf3 1 1 (wf3 1 1 + (-5 : Int)) i k := by
  rcases two hi with rfl | rfl <;> rcases three hk with rfl | rfl | rfl <;> decide +kernel
theorem wf_items : items 2 3 wf2 = [(0, 0, 1), (0, 2, 1 / 2)] := by decide +kernel
theorem wf_itemsT : items 3 2 (fun k i => wf2 i k) = [(0, 0, 1), (2, 0, 1 / 2)] := by decide +kernel
theorem wf_text : matT 2 3 wf2 = [50, 32, 51, 58, 32, 48, 32, 48, 32, 49, 59, 32, 48, 32, 50, 32, 49, 47, 50, 59] := by
  have h2 : (1 / 2 : Rat).den = 2 := by decide +kernel
  have h4 : (1 / 2 : Rat).num = 1 := by decide +kernel
  unfold matT
  rw [wf_items]
  simp [itemT, ratT, intT, natT, Lib.decDigits, h2, h4]
theorem wf_textT : matT 3 2 (fun k i => wf2 i k) = [51, 32, 50, 58, 32, 48, 32, 48, 32, 49, 59, 32, 50, 32, 48, 32, 49, 47, 50, 59] := by
  have h2 : (1 / 2 : Rat).den = 2 := by decide +kernel
  have h4 : (1 / 2 : Rat).num = 1 := by decide +kernel
  unfold matT
  rw [wf_itemsT]
  simp [itemT, ratT, intT, natT, Lib.decDigits, h2, h4]
theorem wf_app : appL 2 3 wf2 [2, 0, 4] = [4, 0] := by decide +kernel
theorem wf_vec : vecT [4, 0] = [91, 52, 32, 48, 93] := by
  simp [vecT, ratT, intT, natT, Lib.decDigits, Lib.join, List.intercalate]
theorem wf2_cases (i k : Nat) : wf2 i k = 0 ∨ wf2 i k = 1 ∨ wf2 i k = 1 / 2 := by
  unfold wf2 wf1
  split
  · exact .inr (.inl rfl)
  · split
    · exact .inr (.inr rfl)
    · exact .inl rfl
theorem wf2_size (i k : Nat) : SzK 4 (wf2 i k) := by
  rcases wf2_cases i k with h | h | h <;> rw [h] <;> constructor <;> decide +kernel
/-- texts of small numbers -/
theorem ratTx_small (w0 : World) (q : Rat) (h1 : q.num.natAbs < 100) (h2 : q.den < 100) : RatTx w0 q ∧ (ratT q).length ≤ 10 := by
  constructor
  · intro W hW
    exact ratText_any (C := In w0.heap.size w0) (fun W W' h hb => h.call hb) q (fun W _ => natText_small _ h1 W) (fun W _ => natText_small _ h2 W) (by have := natT_small h1; omega) (by have := natT_small h2; omega) (Wl_of (i := 7) (by omega) (by decide)) W hW
  · have a := natT_small h1
    have b := natT_small h2
    have c := intT_length q.num
    unfold ratT
    split
    · omega
    · rw [List.length_append, List.length_cons]; omega
end Gus
end
