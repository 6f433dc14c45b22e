/- Proved here: parts of the proof: ShelfV VTx WrkA Wrk. Conditions: those that each theorem states. -/
import Derived.Shelf.Strings.Builder1
import Derived.Shelf.Strings.Builder2
import Derived.Shelf.Strings.OnBuilder
import Derived.Shelf.Small.Bits
import Derived.Shelf.Small.Wraps
import Derived.Shelf.Strings.BuilderF
import Derived.Shelf.Strings.BuilderK
import Derived.Shelf.Strings.Builder2Cap
import Derived.Shelf.Strings.Prefix
import Derived.Shelf.Bits.Mul64
import Derived.Shelf.Strings.Repeat
import Derived.Shelf.Strings.BuilderCap
import Derived.Shelf.Slices.ReverseS
import Derived.Shelf.Slices.SearchI
import Derived.Shelf.Slices.Cells
import Derived.Ground.Names2Prog
import Derived.Test.YtjiobckoldnonaaGreatDoorProg
import Derived.Test.YtjiobckoldnonaaGreatDoorVecQ
section
/- Contracts of Go's library at this translation, laid out of the guide's shelf. -/
namespace Go.Proofs
open Go.Shelf
def Tryz.lays156_ren : Go.Shelf.Ren := ⟨fun | 156 => 119 | 165 => 154 | 166 => 155 | 169 => 156 | 240 => 198 | 241 => 199 | 276 => 222 | 277 => 223 | n => n, fun | 31 => 176 | 9 => 9 | 3 => 3 | 4 => 4 | 0 => 0 | 20 => 20 | 72 => 213 | 76 => 217 | 70 => 210 | 37 => 211 | 75 => 216 | 127 => 259 | 164 => 282 | 5 => 5 | 80 => 219 | n => n, fun | n => n⟩
theorem Tryz.lays156 : Go.Proofs.Lays.n156 Tryz.prog Tryz.lays156_ren := {
  mixed := by kernel_rfl
  f156 := Tryz.func119.trans (congrArg some (by kernel_rfl))
  f165 := Tryz.func154.trans (congrArg some (by kernel_rfl))
  f166 := Tryz.func155.trans (congrArg some (by kernel_rfl))
  f169 := Tryz.func156.trans (congrArg some (by kernel_rfl))
  f240 := Tryz.func198.trans (congrArg some (by kernel_rfl))
  f241 := Tryz.func199.trans (congrArg some (by kernel_rfl))
  f276 := Tryz.func222.trans (congrArg some (by kernel_rfl))
  f277 := Tryz.func223.trans (congrArg some (by kernel_rfl))
  t0 := Tryz.underlying0
  a0 := Tryz.isAgg0
  z0 := Tryz.sizeOf0
  v0 := Tryz.zeroValue0
  t3 := Tryz.underlying3
  a3 := Tryz.isAgg3
  z3 := Tryz.sizeOf3
  v3 := Tryz.zeroValue3
  t4 := Tryz.underlying4
  a4 := Tryz.isAgg4
  z4 := Tryz.sizeOf4
  v4 := Tryz.zeroValue4
  t9 := Tryz.underlying9
  a9 := Tryz.isAgg9
  z9 := Tryz.sizeOf9
  v9 := Tryz.zeroValue9
  t20 := Tryz.underlying20
  a20 := Tryz.isAgg20
  z20 := Tryz.sizeOf20
  v20 := Tryz.zeroValue20
  t31 := Tryz.underlying176
  a31 := Tryz.isAgg176
  z31 := Tryz.sizeOf176
  v31 := Tryz.zeroValue176
  t37 := Tryz.underlying211
  a37 := Tryz.isAgg211
  z37 := Tryz.sizeOf211
  v37 := Tryz.zeroValue211
  t70 := Tryz.underlying210
  a70 := Tryz.isAgg210
  z70 := Tryz.sizeOf210
  v70 := Tryz.zeroValue210
  t72 := Tryz.underlying213
  a72 := Tryz.isAgg213
  z72 := Tryz.sizeOf213
  v72 := Tryz.zeroValue213
  t75 := Tryz.underlying216
  a75 := Tryz.isAgg216
  z75 := Tryz.sizeOf216
  v75 := Tryz.zeroValue216
  t76 := Tryz.underlying217
  a76 := Tryz.isAgg217
  z76 := Tryz.sizeOf217
  v76 := Tryz.zeroValue217
  t127 := Tryz.underlying259
  a127 := Tryz.isAgg259
  z127 := Tryz.sizeOf259
  v127 := Tryz.zeroValue259
  t164 := Tryz.underlying282
  a164 := Tryz.isAgg282
  z164 := Tryz.sizeOf282
  v164 := Tryz.zeroValue282 }
theorem Tryz.Builder_Extra_156 : Builder.Extra Tryz.prog Tryz.lays156_ren := {
  sizeBuilder := by kernel_rfl
  liesBuilder := by kernel_rfl
  t5 := Tryz.underlying5
  a5 := Tryz.isAgg5
  z5 := Tryz.sizeOf5
  v5 := Tryz.zeroValue5
  infoByte := by kernel_rfl
  cellsByte := by kernel_rfl
  sizeByte := by kernel_rfl
  neB5 := by decide }
open Go.RowKit in
/-- strings.Join: "Join concatenates the elements of its first argument to create a single string. The separator string sep is placed between elements in the resulting string.": HOWEVER MANY ELEMENTS. Below the heap's end the world is as it was. (LAID: no walk: one application.) -/
theorem Tryz.strings_Join (bk o c : Nat) (xs : List ByteArray) (sep : ByteArray) (w : World) (hcells : ∀ (j : Nat) x, xs[j]? = some x → w.cell? ⟨bk, o + j, none⟩ = some (.string x)) (hbk : bk < w.heap.size) (hN : xs.length ≤ 140737488355328) (hcap : xs.length ≤ c) (hlen : (Lib.join (xs.map (·.data.toList)) sep.data.toList).length ≤ 140737488355328) :
    Calls Tryz.prog 119 #[.slice (some ⟨bk, o, none⟩) xs.length c, .string sep] w fun e w' => e = .returned (.string ⟨(Lib.join (xs.map (·.data.toList)) sep.data.toList).toArray⟩) ∧ Below w.heap.size w w' := Any.strings_Join Tryz.lays156 Tryz.Builder_Extra_156 bk o c xs sep w hcells hbk hN hcap hlen
end Go.Proofs
end
section
/- The text of a vector. -/
namespace Gus
open Go Go.RowKit Go.Proofs
def vecT (qs : List Rat) : List UInt8 := 91 :: (Lib.join (qs.map ratT) [32] ++ [93])
theorem info_str : (Tryz.prog.info? 9).map (fun i => (i.zero, i.size, i.bytes)) = some (some (.string ⟨#[]⟩), 1, 16) := by kernel_rfl
/-- texts of which the first k are laid -/
def sv (F : Nat → List UInt8) (n k : Nat) : List Value := (List.range n).map fun i => if i < k then strV (F i) else strV []
theorem sv_length (F : Nat → List UInt8) (n k : Nat) : (sv F n k).length = n := by simp [sv]
theorem sv_zero (F : Nat → List UInt8) (n : Nat) : sv F n 0 = List.replicate n (strV []) := by
  unfold sv
  apply List.ext_getElem
  · simp
  · intro i h1 h2; simp
theorem sv_set (F : Nat → List UInt8) (n k : Nat) : (sv F n k).set k (strV (F k)) = sv F n (k + 1) := by
  apply List.ext_getElem
  · simp [sv]
  · intro i h1 h2
    simp only [sv, List.getElem_set, List.getElem_map, List.getElem_range]
    by_cases h : k = i
    · subst h; rw [if_pos rfl, if_pos (by omega)]
    · rw [if_neg h]
      by_cases h2 : i < k
      · rw [if_pos h2, if_pos (by omega)]
      · rw [if_neg h2, if_neg (by omega)]
theorem mk_strs (F : Nat → List UInt8) (L : Nat) (hL : L ≤ 4096) (w : World) : (Instr.makeSlice 176 (.int .i64 (L : Int)) (.int .i64 (L : Int))).run Tryz.prog w =
    .ok (.slice (some ⟨w.heap.size, 0, none⟩) L L) (w.alloc (.cells (sv F L 0).toArray 9)) := by
  obtain ⟨i0, hi, hz0, hz1, hz2⟩ := info_parts info_str
  have := run_make (P := Tryz.prog) w 176 9 i0 (.string ⟨#[]⟩) Tryz.underlying176 hi hz0 .i64 .i64 L L (by omega) (Int.le_refl _) (by rw [hz2]; omega) (by omega)
  rw [this]
  simp only [Int.toNat_natCast, hz1, Nat.mul_one]
  have e : madeCells (Value.string ⟨#[]⟩).cells L = (List.replicate L (strV [])).toArray := by
    apply Array.toList_inj.1
    rw [show (Value.string ⟨#[]⟩).cells = #[.string ⟨#[]⟩] from rfl, toList_madeCells_one]
  rw [e, sv_zero]
theorem lens_le {m : Nat} : ∀ (xs : List (List UInt8)), (∀ x ∈ xs, x.length ≤ m) → Lib.lens xs ≤ xs.length * m
  | [], _ => by simp [Lib.lens]
  | x :: xs, h => by
    have h1 := h x (.head _)
    have h2 := lens_le xs (fun y hy => h y (List.mem_cons_of_mem _ hy))
    have e : Lib.lens (x :: xs) = x.length + Lib.lens xs := by simp [Lib.lens]
    rw [e, List.length_cons, Nat.add_mul, Nat.one_mul]; omega
theorem join_le {m : Nat} (xs : List (List UInt8)) (h : ∀ x ∈ xs, x.length ≤ m) : (Lib.join xs [32]).length ≤ xs.length * (m + 1) := by
  cases xs with
  | nil => simp [Lib.join]
  | cons x xs =>
    have := lens_le (x :: xs) h
    rw [Lib.join_length, List.length_singleton, Nat.mul_add, Nat.mul_one]
    rw [List.length_cons] at this ⊢
    omega
set_option maxRecDepth 100000 in
set_option maxHeartbeats 2000000 in
theorem vtext_any (w0 w : World) (vv : Value) (qs : List Rat) (m : Nat) (hV : VecAt w vv qs) (hin : In w0.heap.size w0 w) (hl : qs.length ≤ 2048) (hx : ∀ i, i < qs.length → RatTx w0 (qs.getD i 0) ∧ (ratT (qs.getD i 0)).length ≤ m) (hcap : qs.length * (m + 1) ≤ 140737488355328) :
    Calls Tryz.prog 60 #[vv] w fun e w' => e = .returned (strV (vecT qs)) ∧ Below w.heap.size w w' := by
  obtain ⟨va, vc, rfl⟩ := hV.shape
  obtain ⟨L, hL⟩ : ∃ L, L = qs.length := ⟨_, rfl⟩
  have HX := Lib.hid hx
  have HV := Lib.hid hV
  have HI := Lib.hid hin
  rw [← hL] at hl ⊢
  have HL := Lib.hid hL
  obtain ⟨F, hF⟩ : ∃ F : Nat → List UInt8, ∀ i, F i = ratT (qs.getD i 0) := ⟨_, fun _ => rfl⟩
  have HF := Lib.hid hF
  clear hF
  have HMK := Lib.hid (mk_strs F L (by omega))
  obtain ⟨X, hX⟩ : ∃ X, X = w.heap.size := ⟨_, rfl⟩
  have HW := Lib.hid hX
  have hmk := HMK.out w
  have HC := Lib.hid hcap
  clear hx hV hin hL hcap
  go_enter Tryz.func60, Tryz.ntmps60
  go_wp2_with fail
  have hv := Bx.new_at w (sv F L 0).toArray 9 hX
  have hin : In X w (w.alloc (.cells (sv F L 0).toArray 9)) := by rw [hX]; exact (In.self w).alloc _
  rw [← hX]
  clear hmk hX
  generalize w.alloc (.cells (sv F L 0).toArray 9) = W1 at *
  rw [List.toList_toArray] at hv
  go_loopw [11] (fun v11 wr => ∃ k : Nat, k ≤ L ∧ v11 = .int .i64 k ∧ In X w wr ∧ Bx wr X 9 (sv F L k)) (fun v11 _ => L - (RowKit.intOf v11).toNat)
  case atStart => exact ⟨0, Nat.zero_le _, rfl, hin, hv⟩
  case round =>
    clear hin hv
    obtain ⟨k, hk, rfl, hin, hv⟩ := hrel
    by_cases hkL : k < L
    · obtain ⟨b, off, cap, A1, A2, A3, A4, A5, hva, hb, hf1, hf2, e0, e1, e2, e3, e4⟩ := HV.out.at (i := k) (by rw [← HL.out]; exact hkL)
      simp only [Value.slice.injEq] at hva
      obtain ⟨rfl, _, hcc⟩ := hva
      subst hcc
      have htx := (HX.out k (by rw [← HL.out]; exact hkL)).1
      rw [← HW.out] at hb
      rw [← hin.cell b _ hb] at e0 e1 e2 e3 e4
      have hbw : b < wr.heap.size := by have := hin.siz; omega
      have h1 := htx _ ((show In w.heap.size w (wr.alloc (.cells #[.int .u64 A1, .string A2, .bool A3, .int .u64 A4, .string A5] 56)) by rw [← HW.out]; exact hin.alloc _).out HI.out HI.out.siz)
      rw [hf2] at h1
      obtain ⟨tx, htxe⟩ : ∃ tx, tx = F k := ⟨_, rfl⟩
      rw [← HF.out k, ← htxe] at h1
      have hkI : (k : Int) < L := by omega
      have hk0 : (0 : Int) ≤ k := by omega
      have hkw : IntKind.i64.wrap ((k : Int) + 1) = ((k + 1 : Nat) : Int) := IntWalk.i64_in _ (by omega)
      have HT := Lib.hid htxe
      clear hf1 hf2 htx htxe
      go_wp2_with fail
      ((with_reducible refine (h1).mono ?_))
      rintro e w2 ⟨rfl, hb2⟩
      have hin2 := (hin.alloc _).call hb2
      have hv2 := (hv.alloc _).call hb2
      have hc2 := hv2.cell k
      rw [List.getElem?_eq_getElem (by rw [sv_length]; exact hkL)] at hc2
      have hf2 := hv2.frozen k
      have hvl := hv2.lt
      have hs := hv2.set k (strV tx)
      rw [HT.out, sv_set] at hs
      have HS := Lib.hid hs
      have HI2 := Lib.hid (hin2.setCell (p := ⟨X, k, none⟩) (Nat.le_refl _) (strV tx))
      obtain ⟨old, hold⟩ : ∃ old, old = (sv F L k)[k]'(by rw [sv_length]; exact hkL) := ⟨_, rfl⟩
      rw [← hold] at hc2
      clear hb2 hin hv e0 e1 e2 e3 e4 hbw hs h1 hin2 hv2 hold
      go_wp2_with fail
      exact ⟨⟨k + 1, by omega, by go_num, HI2.out, by have := HS.out; rw [← HT.out] at this; exact this⟩, by simp [RowKit.intOf]; omega⟩
    · have hkL' : k = L := by omega
      have hkI : ¬ (k : Int) < L := by omega
      have hxs : ((List.range L).map fun j => (⟨(F j).toArray⟩ : ByteArray)).length = L := by simp
      have hj : Lib.join (((List.range L).map fun j => (⟨(F j).toArray⟩ : ByteArray)).map (·.data.toList)) [32] = Lib.join (qs.map ratT) [32] := by
        congr 1
        rw [List.map_map]
        apply List.ext_getElem
        · rw [List.length_map, List.length_range, List.length_map, HL.out]
        · intro i h1 h2
          have hi : i < qs.length := by simpa using h2
          rw [List.getElem_map, List.getElem_map, List.getElem_range, Function.comp_apply]
          show (F i).toArray.toList = _
          rw [HF.out i, List.toList_toArray, List.getD_eq_getElem?_getD, List.getElem?_eq_getElem hi]; rfl
      have hjl : (Lib.join (qs.map ratT) [32]).length ≤ 140737488355328 := by
        refine Nat.le_trans (join_le (m := m) _ fun x hx => ?_) (by rw [List.length_map]; exact HC.out)
        obtain ⟨q, hq, rfl⟩ := List.mem_map.1 hx
        obtain ⟨i, hi, rfl⟩ := List.getElem_of_mem hq
        have := (HX.out i hi).2
        rw [List.getD_eq_getElem?_getD, List.getElem?_eq_getElem hi] at this
        exact this
      have hjoin := Tryz.strings_Join X 0 L ((List.range L).map fun j => (⟨(F j).toArray⟩ : ByteArray)) ⟨#[32]⟩ wr (fun j x hx => by
        have hjL : j < L := by
          have := (List.getElem?_eq_some_iff.1 hx).1
          rw [hxs] at this; exact this
        rw [List.getElem?_map, List.getElem?_range hjL] at hx
        rw [Nat.zero_add, hv.cell j]
        unfold sv
        rw [List.getElem?_map, List.getElem?_range hjL, hkL']
        cases hx
        simp only [Option.map_some, if_pos hjL]) hv.lt (by rw [hxs]; omega) (by rw [hxs]; exact Nat.le_refl _) (by rw [show (⟨#[32]⟩ : ByteArray).data.toList = [32] from rfl, hj]; exact hjl)
      rw [hxs, show (⟨#[32]⟩ : ByteArray).data.toList = [32] from rfl, hj] at hjoin
      obtain ⟨lj, hlj⟩ : ∃ lj, lj = Lib.join (qs.map ratT) [32] := ⟨_, rfl⟩
      rw [← hlj] at hjoin hjl
      have HLJ := Lib.hid hlj
      clear hlj
      have e1 : ¬ 9223372036854775807 < 1 + lj.length := by omega
      have e2 : ¬ 9223372036854775807 < 1 + lj.length + 1 := by omega
      have HJ := Lib.hid hjl
      have HKL := Lib.hid hkL'
      clear hxs hj hjl hv hkL'
      go_wp2_with fail
      ((with_reducible refine hjoin.mono ?_))
      rintro e w2 ⟨rfl, hb2⟩
      have hin2 := hin.call hb2
      clear hjoin hb2 hin
      go_wp2_with fail
      go_ret
      have e : ({ data := #[91] } ++ { data := lj.toArray } ++ { data := #[93] } : ByteArray) = ⟨(vecT qs).toArray⟩ := by
        unfold vecT
        rw [← HLJ.out, show (⟨#[91]⟩ : ByteArray) = ⟨[91].toArray⟩ from rfl, show (⟨#[93]⟩ : ByteArray) = ⟨[93].toArray⟩ from rfl]
        simp only [bcat]
        simp
      exact ⟨str_eq e, by rw [← HW.out]; exact hin2.bel⟩
end Gus
end
section
/- Plain facts of the chapter's example. -/
namespace Gus
open Go Go.RowKit Go.Proofs
def wf1 (i k : Nat) : Rat := if i = 0 ∧ k = 2 then 1 / 2 else 0
def wf2 (i k : Nat) : Rat := if i = 0 ∧ k = 0 then 1 else wf1 i k
def wf3 (i k : Nat) : Rat := if i = 1 ∧ k = 1 then 5 else wf2 i k
theorem two {i : Nat} (h : i < 2) : i = 0 ∨ i = 1 := by omega
theorem three {i : Nat} (h : i < 3) : i = 0 ∨ i = 1 ∨ i = 2 := by omega
theorem wf1_eq (i k : Nat) (hi : i < 2) (hk : k < 3) : wf1 i k = setF (fun _ _ => 0) 0 2 (0 + 1 / 2) i k := by
  rcases two hi with rfl | rfl <;> rcases three hk with rfl | rfl | rfl <;> decide +kernel
theorem wf2_eq (i k : Nat) (hi : i < 2) (hk : k < 3) : wf2 i k = setF wf1 0 0 (wf1 0 0 + 1) i k := by
  rcases two hi with rfl | rfl <;> rcases three hk with rfl | rfl | rfl <;> decide +kernel
theorem wf3_eq (i k : Nat) (hi : i < 2) (hk : k < 3) : wf3 i k = setF wf2 1 1 (wf2 1 1 + 5) i k := by
  rcases two hi with rfl | rfl <;> rcases three hk with rfl | rfl | rfl <;> decide +kernel
theorem wf4_eq (i k : Nat) (hi : i < 2) (hk : k < 3) : wf2 i k = setF wf3 1 1 (wf3 1 1 + (-5 : Int)) i k := by
  rcases two hi with rfl | rfl <;> rcases three hk with rfl | rfl | rfl <;> decide +kernel
theorem wf_items : items 2 3 wf2 = [(0, 0, 1), (0, 2, 1 / 2)] := by decide +kernel
theorem wf_itemsT : items 3 2 (fun k i => wf2 i k) = [(0, 0, 1), (2, 0, 1 / 2)] := by decide +kernel
theorem wf_text : matT 2 3 wf2 = [50, 32, 51, 58, 32, 48, 32, 48, 32, 49, 59, 32, 48, 32, 50, 32, 49, 47, 50, 59] := by
  have h2 : (1 / 2 : Rat).den = 2 := by decide +kernel
  have h4 : (1 / 2 : Rat).num = 1 := by decide +kernel
  unfold matT
  rw [wf_items]
  simp [itemT, ratT, intT, natT, Lib.decDigits, h2, h4]
theorem wf_textT : matT 3 2 (fun k i => wf2 i k) = [51, 32, 50, 58, 32, 48, 32, 48, 32, 49, 59, 32, 50, 32, 48, 32, 49, 47, 50, 59] := by
  have h2 : (1 / 2 : Rat).den = 2 := by decide +kernel
  have h4 : (1 / 2 : Rat).num = 1 := by decide +kernel
  unfold matT
  rw [wf_itemsT]
  simp [itemT, ratT, intT, natT, Lib.decDigits, h2, h4]
theorem wf_app : appL 2 3 wf2 [2, 0, 4] = [4, 0] := by decide +kernel
theorem wf_vec : vecT [4, 0] = [91, 52, 32, 48, 93] := by
  simp [vecT, ratT, intT, natT, Lib.decDigits, Lib.join, List.intercalate]
theorem wf2_cases (i k : Nat) : wf2 i k = 0 ∨ wf2 i k = 1 ∨ wf2 i k = 1 / 2 := by
  unfold wf2 wf1
  split
  · exact .inr (.inl rfl)
  · split
    · exact .inr (.inr rfl)
    · exact .inl rfl
theorem wf2_size (i k : Nat) : SzK 4 (wf2 i k) := by
  rcases wf2_cases i k with h | h | h <;> rw [h] <;> constructor <;> decide +kernel
/-- texts of small numbers -/
theorem ratTx_small (w0 : World) (q : Rat) (h1 : q.num.natAbs < 100) (h2 : q.den < 100) : RatTx w0 q ∧ (ratT q).length ≤ 10 := by
  constructor
  · intro W hW
    exact ratText_any (C := In w0.heap.size w0) (fun W W' h hb => h.call hb) q (fun W _ => natText_small _ h1 W) (fun W _ => natText_small _ h2 W) (by have := natT_small h1; omega) (by have := natT_small h2; omega) (Wl_of (i := 7) (by omega) (by decide)) W hW
  · have a := natT_small h1
    have b := natT_small h2
    have c := intT_length q.num
    unfold ratT
    split
    · omega
    · rw [List.length_append, List.length_cons]; omega
end Gus
end
section
/- The chapter's example. -/
namespace Gus
open Go Go.RowKit Go.Proofs
theorem BB.call {w w' : World} {p b n N M : Nat} {f : Nat → Nat → Rat} (h : BB w p b n N M f) (hb : Below w.heap.size w w') : BB w' p b n N M f := ⟨h.1.call hb, h.2.call hb⟩
theorem BB.alloc {w : World} {p b n N M : Nat} {f : Nat → Nat → Rat} (h : BB w p b n N M f) (o : Obj) : BB (w.alloc o) p b n N M f := ⟨h.1.alloc o, h.2.alloc o⟩
theorem BB.ext {w : World} {p b n N M : Nat} {f g : Nat → Nat → Rat} (h : BB w p b n N M f) (hg : ∀ i k, i < N → k < M → g i k = f i k) : BB w p b n N M g := ⟨h.1, h.2.ext hg⟩
theorem In.grown {N : Nat} {W0 w w' : World} {b : Nat} (h : In N W0 w) (hg : w.grownBy w' (some b)) (hb : N ≤ b) : In N W0 w' :=
  ⟨h.bel.grown hg h.siz (fun k h => by cases h; exact hb), Nat.le_trans h.siz hg.size⟩
set_option maxRecDepth 100000 in
set_option maxHeartbeats 4000000 in
theorem works_any (w : World) : Calls Tryz.prog 10 #[] w fun e w' => e = .returned (.bool true) ∧ Below w.heap.size w w' := by
  have c1 : ∀ W, Calls Tryz.prog 11 #[.int .i64 2, .int .i64 3] W fun e w' => ∃ b, e = .returned (.tuple #[.pointer (some ⟨b + 1, 0, none⟩), .int .i64 0]) ∧ W.heap.size ≤ b ∧ BB w' (b + 1) b 0 2 3 (fun _ _ => 0) ∧ Below W.heap.size W w' := fun W => new_ok 2 3 (by decide) (by decide) W
  have c2 := fracOf_any 1 2 (by decide) (by decide) (by decide) (by decide) (by decide)
  obtain ⟨q, hq⟩ : ∃ q : Rat, q = ((1 : Int) : Rat) / ((2 : Int) : Rat) := ⟨_, rfl⟩
  rw [← hq] at c2
  obtain ⟨A1, A2, A3, A4, A5, hA⟩ : ∃ A1 A2 A3 A4 A5, fracV q = .agg #[.int .u64 A1, .string A2, .bool A3, .int .u64 A4, .string A5] := ⟨_, _, _, _, _, rfl⟩
  rw [hA] at c2
  have HQ := Lib.hid hq
  have HA := Lib.hid hA
  clear hq hA
  obtain ⟨X, hX⟩ : ∃ X, X = w.heap.size := ⟨_, rfl⟩
  have HX := Lib.hid hX
  go_enter Tryz.func10, Tryz.ntmps10
  go_wp2_with fail
  ((with_reducible refine (c1 _).mono ?_))
  rintro e w1 ⟨b, rfl, hb, hB, hbel⟩
  have hin : In X w w1 := by rw [hX]; exact (In.self w).call hbel
  rw [← hX] at hb
  clear hbel hX
  go_wp2_with fail
  ((with_reducible refine (c2 _).mono ?_))
  rintro e w2 ⟨rfl, hbel⟩
  replace hin := hin.call hbel
  replace hB := hB.call hbel
  clear hbel c1 c2
  go_upto_region 5 with fail
  obtain ⟨hh, hhe⟩ : ∃ hh, hh = w2.heap.size := ⟨_, rfl⟩
  have bh := Bx.new_at w2 #[.int .u64 A1, .string A2, .bool A3, .int .u64 A4, .string A5] 56 hhe
  replace hB := hB.alloc (.cells #[.int .u64 A1, .string A2, .bool A3, .int .u64 A4, .string A5] 56)
  have hbh : b + 1 < hh := by
    rw [hhe]
    have h0 := hB.1.lt
    rw [World.size_alloc] at h0
    have h1 := hB.1
    refine Decidable.by_contra fun hn => ?_
    have h2 : b + 1 = w2.heap.size := by omega
    rw [h2] at h1
    have h3 := Bx.new_at w2 #[.int .u64 A1, .string A2, .bool A3, .int .u64 A4, .string A5] 56 rfl
    unfold Bx at h1 h3
    rw [h1] at h3
    simp at h3
  replace hin := hin.alloc (.cells #[.int .u64 A1, .string A2, .bool A3, .int .u64 A4, .string A5] 56)
  rw [← hhe]
  clear hhe
  generalize w2.alloc (.cells #[.int .u64 A1, .string A2, .bool A3, .int .u64 A4, .string A5] 56) = W0 at *
  -- the four additions
  have a1 : Calls Tryz.prog 15 #[.pointer (some ⟨b + 1, 0, none⟩), .int .i64 0, .int .i64 2, .agg #[.int .u64 A1, .string A2, .bool A3, .int .u64 A4, .string A5]] W0 fun e w' => e = .returned (.int .i64 0) ∧ BB w' (b + 1) b 1 2 3 wf1 ∧ W0.grownBy w' (some b) := by
    rw [← HA.out]
    refine (badd_in (s := 1) (j := 4) W0 (b + 1) b 0 2 3 _ 0 2 q hB (by decide) (by decide) (by decide) (by decide) (by decide) (by omega) SzK.zero (by rw [HQ.out]; constructor <;> decide +kernel) (by decide)).mono ?_
    rintro e w' ⟨rfl, h1, h2⟩
    exact ⟨rfl, h1.ext fun i k hi hk => by rw [wf1_eq i k hi hk, HQ.out]; rfl, h2⟩
  have h0 := bh.c0
  have h1 := bh.c1
  have h2 := bh.c2
  have h3 := bh.c3
  have h4 := bh.c4
  have hl := bh.lt
  go_wp2_with fail
  ((with_reducible refine a1.mono ?_))
  rintro e w3 ⟨rfl, hB, hg⟩
  replace hin := hin.grown hg hb
  replace bh := bh.grown hg (by simp; omega)
  clear a1 hg h0 h1 h2 h3 h4 hl
  have c3 := fracInt_any 1 (by decide) (by decide)
  obtain ⟨q3, hq3⟩ : ∃ q3 : Rat, q3 = ((1 : Int) : Rat) := ⟨_, rfl⟩
  rw [← hq3] at c3
  have HQ3 := Lib.hid hq3
  clear hq3
  go_wp2_with fail
  ((with_reducible refine (c3 _).mono ?_))
  rintro e w4 ⟨rfl, hbel⟩
  replace hin := hin.call hbel
  replace bh := bh.call hbel
  replace hB := hB.call hbel
  clear hbel c3
  have a2 : ∀ W, BB W (b + 1) b 1 2 3 wf1 → Calls Tryz.prog 15 #[.pointer (some ⟨b + 1, 0, none⟩), .int .i64 0, .int .i64 0, fracV q3] W fun e w' => e = .returned (.int .i64 0) ∧ BB w' (b + 1) b 2 2 3 wf2 ∧ W.grownBy w' (some b) := by
    intro W hB
    rw [HQ3.out]
    refine (badd_in (s := 4) (j := 4) W (b + 1) b 1 2 3 _ 0 0 ((1 : Int) : Rat) hB (by decide) (by decide) (by decide) (by decide) (by decide) (by omega) (by constructor <;> decide +kernel) (by constructor <;> decide +kernel) (by decide)).mono ?_
    rintro e w' ⟨rfl, h1, h2⟩
    exact ⟨rfl, h1.ext fun i k hi hk => by rw [wf2_eq i k hi hk]; rfl, h2⟩
  go_wp2_with fail
  ((with_reducible refine (a2 _ hB).mono ?_))
  rintro e w5 ⟨rfl, hB, hg⟩
  replace hin := hin.grown hg hb
  replace bh := bh.grown hg (by simp; omega)
  clear a2 hg
  have c4 := fracInt_any 5 (by decide) (by decide)
  obtain ⟨q4, hq4⟩ : ∃ q4 : Rat, q4 = ((5 : Int) : Rat) := ⟨_, rfl⟩
  rw [← hq4] at c4
  have HQ4 := Lib.hid hq4
  clear hq4
  go_wp2_with fail
  ((with_reducible refine (c4 _).mono ?_))
  rintro e w6 ⟨rfl, hbel⟩
  replace hin := hin.call hbel
  replace bh := bh.call hbel
  replace hB := hB.call hbel
  clear hbel c4
  have a3 : ∀ W, BB W (b + 1) b 2 2 3 wf2 → Calls Tryz.prog 15 #[.pointer (some ⟨b + 1, 0, none⟩), .int .i64 1, .int .i64 1, fracV q4] W fun e w' => e = .returned (.int .i64 0) ∧ BB w' (b + 1) b 3 2 3 wf3 ∧ W.grownBy w' (some b) := by
    intro W hB
    rw [HQ4.out]
    refine (badd_in (s := 4) (j := 4) W (b + 1) b 2 2 3 _ 1 1 ((5 : Int) : Rat) hB (by decide) (by decide) (by decide) (by decide) (by decide) (by omega) (by constructor <;> decide +kernel) (by constructor <;> decide +kernel) (by decide)).mono ?_
    rintro e w' ⟨rfl, h1, h2⟩
    exact ⟨rfl, h1.ext fun i k hi hk => by rw [wf3_eq i k hi hk]; rfl, h2⟩
  go_wp2_with fail
  ((with_reducible refine (a3 _ hB).mono ?_))
  rintro e w7 ⟨rfl, hB, hg⟩
  replace hin := hin.grown hg hb
  replace bh := bh.grown hg (by simp; omega)
  clear a3 hg
  have c5 := fracInt_any (-5) (by decide) (by decide)
  obtain ⟨q5, hq5⟩ : ∃ q5 : Rat, q5 = (((-5) : Int) : Rat) := ⟨_, rfl⟩
  rw [← hq5] at c5
  have HQ5 := Lib.hid hq5
  clear hq5
  go_wp2_with fail
  ((with_reducible refine (c5 _).mono ?_))
  rintro e w8 ⟨rfl, hbel⟩
  replace hin := hin.call hbel
  replace bh := bh.call hbel
  replace hB := hB.call hbel
  clear hbel c5
  have a4 : ∀ W, BB W (b + 1) b 3 2 3 wf3 → Calls Tryz.prog 15 #[.pointer (some ⟨b + 1, 0, none⟩), .int .i64 1, .int .i64 1, fracV q5] W fun e w' => e = .returned (.int .i64 0) ∧ BB w' (b + 1) b 4 2 3 wf2 ∧ W.grownBy w' (some b) := by
    intro W hB
    rw [HQ5.out]
    refine (badd_in (s := 4) (j := 4) W (b + 1) b 3 2 3 _ 1 1 ((-5 : Int) : Rat) hB (by decide) (by decide) (by decide) (by decide) (by decide) (by omega) (by constructor <;> decide +kernel) (by constructor <;> decide +kernel) (by decide)).mono ?_
    rintro e w' ⟨rfl, h1, h2⟩
    exact ⟨rfl, h1.ext fun i k hi hk => by rw [wf4_eq i k hi hk], h2⟩
  go_wp2_with fail
  ((with_reducible refine (a4 _ hB).mono ?_))
  rintro e w9 ⟨rfl, hB, hg⟩
  replace hin := hin.grown hg hb
  replace bh := bh.grown hg (by simp; omega)
  clear a4 hg
  have c6 := bsparse_any w9 (b + 1) b _ 2 3 _ hB (by decide) (by decide)
  go_wp2_with fail
  ((with_reducible refine c6.mono ?_))
  rintro e w10 ⟨v, rfl, hv, hbel⟩
  have hXw := hin.siz
  replace hin := hin.call hbel
  replace bh := bh.call hbel
  replace hB := hB.call hbel
  clear hbel c6
  have hs : SpM w10 v 2 3 wf2 := SpN.m hv
  clear hv
  obtain ⟨va, vc, rfl⟩ := hs.shape
  have HSP := Lib.hid hs
  have HBB := Lib.hid hB
  clear hs hB
  go_upto_region 10 with fail
  obtain ⟨s, hs⟩ : ∃ s, s = w10.heap.size := ⟨_, rfl⟩
  have hc2 : (2 : Int) = ((2 : Nat) : Int) := rfl
  have bs := Bx.new_at w10 #[.int .i64 2, .int .i64 3, .slice va 2 vc] 63 hs
  have hS10 : SpM (w10.alloc (.cells #[.int .i64 2, .int .i64 3, .slice va 2 vc] 63)) (.agg #[.int .i64 2, .int .i64 3, .slice va 2 vc]) 2 3 wf2 := HSP.out.call ((Below.refl _ _).alloc (Nat.le_refl _) _)
  have hB10 := HBB.out.alloc (.cells #[.int .i64 2, .int .i64 3, .slice va 2 vc] 63)
  replace bh := bh.alloc (.cells #[.int .i64 2, .int .i64 3, .slice va 2 vc] 63)
  replace hin := hin.alloc (.cells #[.int .i64 2, .int .i64 3, .slice va 2 vc] 63)
  rw [← hs]
  clear hc2 HSP HBB hs
  try simp only [Nat.cast_ofNat]
  generalize w10.alloc (.cells #[.int .i64 2, .int .i64 3, .slice va 2 vc] 63) = W1 at *
  have HSP := Lib.hid hS10
  have HBB := Lib.hid hB10
  have HBH := Lib.hid bh
  have HIN := Lib.hid hin
  clear hS10 hB10 bh hin
  refine wp_region_mixL (fun w' => w'.cell? ⟨s, 0, none⟩ = some (.int .i64 2) ∧ w'.cell? ⟨s, 1, none⟩ = some (.int .i64 3) ∧ w'.cell? ⟨s, 2, none⟩ = some (.slice va 2 vc)) 8 [(0, true), (1, false), (2, false), (3, false), (4, true), (5, true), (6, true), (7, false), (8, false)] (by kernel_rfl) (by kernel_rfl) (by kernel_rfl) (by kernel_rfl) (by kernel_rfl) (by kernel_rfl) (by kernel_rfl) (by kernel_rfl) (fun _ _ d _ _ h => by cases d <;> exact h) ?_ ?_
  · exact ⟨bs.c0, bs.c1, bs.c2⟩
  (apply mixL_take; (focus rfl); (focus rfl); (focus (intro w' hw'; obtain ⟨s0, s1, s2⟩ := hw'; go_simp; exact rfl)); (try simp only [Act.put]); (try simp only [List.setIfInBounds_toArray]); (try simp only [List.set]))
  have bs2 := bs.drew
  have HSP2 := Lib.hid (show SpM W1.drew _ 2 3 wf2 from HSP.out)
  have HBB2 := Lib.hid (show BB W1.drew (b + 1) b 4 2 3 wf2 from HBB.out)
  have HBH2 := Lib.hid (show Bx W1.drew hh _ _ from HBH.out)
  have HIN2 := Lib.hid HIN.out.drew
  clear HSP HBB HBH HIN bs
  generalize W1.drew = W2 at *
  (apply mixL_run; (focus rfl); (focus rfl); intro K hK; go_simp)
  refine hK _ _ (fun _ => ⟨(bs2.alloc _).c0, (bs2.alloc _).c1, (bs2.alloc _).c2⟩) ?_
  clear hK K
  obtain ⟨l, hl⟩ : ∃ l, l = W2.heap.size := ⟨_, rfl⟩
  have bl := Bx.new_at W2 #[.int .i64 2, .int .i64 0, .int .i64 4] 2 hl
  have bs3 := bs2.alloc (.cells #[.int .i64 2, .int .i64 0, .int .i64 4] 2)
  have HSP := Lib.hid (HSP2.out.call ((Below.refl _ _).alloc (Nat.le_refl _) (.cells #[.int .i64 2, .int .i64 0, .int .i64 4] 2)))
  have HBB := Lib.hid (HBB2.out.alloc (.cells #[.int .i64 2, .int .i64 0, .int .i64 4] 2))
  have HBH := Lib.hid (HBH2.out.alloc (.cells #[.int .i64 2, .int .i64 0, .int .i64 4] 2))
  have HIN := Lib.hid (HIN2.out.alloc (.cells #[.int .i64 2, .int .i64 0, .int .i64 4] 2))
  rw [← hl]
  clear hl HSP2 HBB2 HBH2 HIN2 bs2
  generalize W2.alloc (.cells #[.int .i64 2, .int .i64 0, .int .i64 4] 2) = W3 at *
  have c7 := vof_any W3 (some ⟨l, 0, none⟩) 3 [2, 0, 4] (fun i hi => ⟨l, 0, rfl, bl.lt, by
    have h3 : i = 0 ∨ i = 1 ∨ i = 2 := by simp at hi; omega
    rw [bl.cell]
    rcases h3 with rfl | rfl | rfl <;> rfl⟩) (by decide) (fun i => by
    by_cases hi : i < 3
    · have h3 : i = 0 ∨ i = 1 ∨ i = 2 := by omega
      rcases h3 with rfl | rfl | rfl <;> decide
    · rw [List.getD_eq_getElem?_getD, List.getElem?_eq_none (by simp; omega)]; decide)
  rw [show ((List.range [(2 : Int), 0, 4].length).map fun i => (([(2 : Int), 0, 4].getD i 0 : Int) : Rat)) = [2, 0, 4] by decide +kernel, show [(2 : Int), 0, 4].length = 3 from rfl] at c7
  clear bl
  (apply mixL_run; (focus rfl); (focus rfl); intro K hK; go_simp)
  ((with_reducible refine c7.mono ?_))
  rintro e W4 ⟨g, rfl, hg, hv, hbel⟩
  have bs4 := bs3.call hbel
  refine hK _ _ (fun _ => ⟨bs4.c0, bs4.c1, bs4.c2⟩) ?_
  have HSP2 := Lib.hid (HSP.out.call hbel)
  have HBB2 := Lib.hid (HBB.out.call hbel)
  have HBH2 := Lib.hid (HBH.out.call hbel)
  have HIN2 := Lib.hid (HIN.out.call hbel)
  clear hK K HSP HBB HBH HIN bs3 hbel c7
  (try simp only [Act.put]); (try simp only [List.setIfInBounds_toArray]); (try simp only [List.set])
  have c8 := apply_ok (j := 4) (l := 4) W4 (.agg #[.int .i64 2, .int .i64 3, .slice va 2 vc]) (.slice (some ⟨g, 0, none⟩) 3 3) 2 3 wf2 [2, 0, 4] HSP2.out (VBx.at hv 3 rfl 3) (by decide) (by decide) rfl wf2_size (fun k => by
    by_cases hk : k < 3
    · rcases three hk with rfl | rfl | rfl <;> constructor <;> decide +kernel
    · rw [List.getD_eq_getElem?_getD, List.getElem?_eq_none (by simp; omega)]; constructor <;> decide +kernel) (by decide)
  rw [wf_app] at c8
  clear hv hg
  (apply mixL_run; (focus rfl); (focus rfl); intro K hK; go_simp)
  ((with_reducible refine c8.mono ?_))
  rintro e W5 ⟨g2, rfl, hg2, hv2, hbel⟩
  have bs5 := bs4.call hbel
  refine hK _ _ (fun _ => ⟨bs5.c0, bs5.c1, bs5.c2⟩) ?_
  have HSP := Lib.hid (HSP2.out.call hbel)
  have HBB := Lib.hid (HBB2.out.call hbel)
  have HBH := Lib.hid (HBH2.out.call hbel)
  have HIN := Lib.hid (HIN2.out.call hbel)
  have HV := Lib.hid (VBx.at hv2 2 rfl 2)
  clear hK K HSP2 HBB2 HBH2 HIN2 bs4 hbel c8 hv2
  (try simp only [Act.put]); (try simp only [List.setIfInBounds_toArray]); (try simp only [List.set])
  (repeat (apply mixL_take; (focus rfl); (focus rfl); (focus (intro w' hw'; obtain ⟨s0, s1, s2⟩ := hw'; go_simp; exact rfl)); (try simp only [Act.put]); (try simp only [List.setIfInBounds_toArray]); (try simp only [List.set])))
  (apply mixL_run; (focus rfl); (focus rfl); intro K hK; go_simp)
  refine hK _ _ (fun _ => ⟨bs5.c0, bs5.c1, bs5.c2⟩) ?_
  clear hK K
  (try simp only [Act.put]); (try simp only [List.setIfInBounds_toArray]); (try simp only [List.set])
  (apply mixL_run; (focus rfl); (focus rfl); intro K hK; go_simp)
  refine hK _ _ (fun h => absurd h (by decide)) ?_
  clear hK K
  refine mixL_done ?_
  have s0 := bs5.c0
  have s1 := bs5.c1
  have s2 := bs5.c2
  have hsl := bs5.lt
  have c9 := turn_any (j := 4) W5 (.agg #[.int .i64 2, .int .i64 3, .slice va 2 vc]) 2 3 wf2 HSP.out (by decide) (by decide) wf2_size (by decide)
  go_wp2_with fail
  ((with_reducible refine c9.mono ?_))
  rintro e W6 ⟨tv, rfl, htv, hbel⟩
  have ht0 : SpM W6 tv 3 2 (fun k i => wf2 i k) := htv.m
  obtain ⟨ta, tc, rfl⟩ := ht0.shape
  have bs6 := bs5.call hbel
  have HSP2 := Lib.hid (HSP.out.call hbel)
  have HBB2 := Lib.hid (HBB.out.call hbel)
  have HBH2 := Lib.hid (HBH.out.call hbel)
  have HIN2 := Lib.hid (HIN.out.call hbel)
  have HV2 := Lib.hid (HV.out.call hbel)
  have HT := Lib.hid ht0
  clear c9 htv hbel ht0 HSP HBB HBH HIN HV bs5 s0 s1 s2 hsl
  have c10 : ∀ W, Calls Tryz.prog 11 #[.int .i64 (-1), .int .i64 2049] W fun e w' => e = .returned (.tuple #[.pointer none, .int .i64 1]) ∧ Below W.heap.size W w' := fun W => new_bad (-1) 2049 (by decide) W
  have c11 : ∀ W, Calls Tryz.prog 11 #[.int .i64 2049, .int .i64 0] W fun e w' => e = .returned (.tuple #[.pointer none, .int .i64 3]) ∧ Below W.heap.size W w' := fun W => new_bad 2049 0 (by decide) W
  go_wp2_with fail
  obtain ⟨tt, htt⟩ : ∃ tt, tt = W6.heap.size := ⟨_, rfl⟩
  have bt := Bx.new_at W6 #[.int .i64 3, .int .i64 2, .slice ta 3 tc] 63 htt
  have bs7 := bs6.alloc (.cells #[.int .i64 3, .int .i64 2, .slice ta 3 tc] 63)
  have hT7 : SpM (W6.alloc (.cells #[.int .i64 3, .int .i64 2, .slice ta 3 tc] 63)) (.agg #[.int .i64 3, .int .i64 2, .slice ta 3 tc]) 3 2 (fun k i => wf2 i k) := HT.out.call ((Below.refl _ _).alloc (Nat.le_refl _) _)
  have hS7 := HSP2.out.call ((Below.refl _ _).alloc (Nat.le_refl _) (.cells #[.int .i64 3, .int .i64 2, .slice ta 3 tc] 63))
  have hB7 := HBB2.out.alloc (.cells #[.int .i64 3, .int .i64 2, .slice ta 3 tc] 63)
  have hH7 := HBH2.out.alloc (.cells #[.int .i64 3, .int .i64 2, .slice ta 3 tc] 63)
  have hI7 := HIN2.out.alloc (.cells #[.int .i64 3, .int .i64 2, .slice ta 3 tc] 63)
  have hV7 := HV2.out.call ((Below.refl _ _).alloc (Nat.le_refl _) (.cells #[.int .i64 3, .int .i64 2, .slice ta 3 tc] 63))
  rw [← htt]
  clear htt HT HSP2 HBB2 HBH2 HIN2 HV2 bs6
  generalize W6.alloc (.cells #[.int .i64 3, .int .i64 2, .slice ta 3 tc] 63) = W7 at *
  ((with_reducible refine (c10 _).mono ?_))
  rintro e W8 ⟨rfl, hbel⟩
  replace bt := bt.call hbel
  have bs8 := bs7.call hbel
  replace hT7 := hT7.call hbel
  replace hS7 := hS7.call hbel
  replace hB7 := hB7.call hbel
  replace hH7 := hH7.call hbel
  replace hI7 := hI7.call hbel
  replace hV7 := hV7.call hbel
  clear c10 hbel bs7
  go_wp2_with fail
  ((with_reducible refine (c11 _).mono ?_))
  rintro e W9 ⟨rfl, hbel⟩
  replace bt := bt.call hbel
  have bs9 := bs8.call hbel
  replace hT7 := hT7.call hbel
  replace hS7 := hS7.call hbel
  replace hB7 := hB7.call hbel
  replace hH7 := hH7.call hbel
  replace hI7 := hI7.call hbel
  replace hV7 := hV7.call hbel
  clear c11 hbel bs8
  have hr : ∀ w0 i k, RatTx w0 (wf2 i k) ∧ (ratT (wf2 i k)).length ≤ 10 := fun w0 i k => by
    refine ratTx_small w0 _ ?_ ?_ <;> rcases wf2_cases i k with h | h | h <;> rw [h] <;> decide +kernel
  have c12 := stext_any W9 W9 _ 2 3 wf2 10 hS7 (In.self _) (by decide) (by decide) (by decide) (fun i k _ _ => hr W9 i k)
  rw [wf_text] at c12
  have s0 := bs9.c0
  have s1 := bs9.c1
  have s2 := bs9.c2
  have hsl := bs9.lt
  go_wp2_with fail
  ((with_reducible refine c12.mono ?_))
  rintro e W10 ⟨rfl, hbel⟩
  replace bt := bt.call hbel
  replace hT7 := hT7.call hbel
  replace hB7 := hB7.call hbel
  replace hH7 := hH7.call hbel
  replace hI7 := hI7.call hbel
  replace hV7 := hV7.call hbel
  clear c12 hbel s0 s1 s2 hsl bs9 hS7
  have c13 := vtext_any W10 W10 _ [4, 0] 10 hV7 (In.self _) (by decide) (fun i hi => by
    have h2 : i = 0 ∨ i = 1 := by simp at hi; omega
    rcases h2 with rfl | rfl <;> refine ratTx_small W10 _ ?_ ?_ <;> decide +kernel) (by decide)
  rw [wf_vec] at c13
  go_wp2_with fail
  ((with_reducible refine c13.mono ?_))
  rintro e W11 ⟨rfl, hbel⟩
  replace bt := bt.call hbel
  replace hT7 := hT7.call hbel
  replace hB7 := hB7.call hbel
  replace hH7 := hH7.call hbel
  replace hI7 := hI7.call hbel
  clear c13 hbel hV7
  have c14 := stext_any W11 W11 _ 3 2 _ 10 hT7 (In.self _) (by decide) (by decide) (by decide) (fun k i _ _ => hr W11 i k)
  rw [wf_textT] at c14
  have t0 := bt.c0
  have t1 := bt.c1
  have t2 := bt.c2
  have htl := bt.lt
  go_wp2_with fail
  ((with_reducible refine c14.mono ?_))
  rintro e W12 ⟨rfl, hbel⟩
  replace hB7 := hB7.call hbel
  replace hH7 := hH7.call hbel
  replace hI7 := hI7.call hbel
  clear c14 hbel t0 t1 t2 htl bt hT7
  have c15 : Calls Tryz.prog 15 #[.pointer (some ⟨b + 1, 0, none⟩), .int .i64 2, .int .i64 0, .agg #[.int .u64 A1, .string A2, .bool A3, .int .u64 A4, .string A5]] W12 fun e w' => e = .returned (.int .i64 1) ∧ Below W12.heap.size W12 w' := by
    rw [← HA.out]
    exact badd_out W12 (b + 1) b _ 2 3 _ 2 0 q hB7 (by omega)
  have h0 := hH7.c0
  have h1 := hH7.c1
  have h2 := hH7.c2
  have h3 := hH7.c3
  have h4 := hH7.c4
  have hhl := hH7.lt
  go_wp2_with fail
  ((with_reducible refine c15.mono ?_))
  rintro e W13 ⟨rfl, hbel⟩
  replace hI7 := hI7.call hbel
  clear c15 hbel h0 h1 h2 h3 h4 hhl hB7 hH7
  go_wp2_with fail
  go_ret
  exact ⟨rfl, by rw [← HX.out]; exact hI7.bel⟩
end Gus
end
