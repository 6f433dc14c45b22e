/- Proved here: parts of the proof: Rfp Fui Ntx Rea. Conditions: those that each theorem states. -/
import Derived.Test.YtakblfhmllgepaaGreatDoorRdwQ
import Derived.Test.YtakblfhmllgepaaGreatDoorRdjQ
import Derived.Test.YtakblfhmllgepaaGreatDoorMroQ
import Derived.Test.YtakblfhmllgepaaGreatDoorCntQ
import Derived.Test.YtakblfhmllgepaaGreatDoorMsmQ
import Derived.Test.YtakblfhmllgepaaGreatDoorShelfUQ
import Derived.Lib.AppendIntMem
import Derived.Shelf.Strconv.Itoa3
import Derived.Test.YtakblfhmllgepaaGreatDoorShelfVQ
import Derived.Test.YtakblfhmllgepaaGreatDoorRowQ
import Derived.Lib.OwnBridge
section
/- gussetlaw16.SparsesBuild: the plain part. -/
namespace Gus
open Go Go.RowKit Go.Proofs
theorem pow2_le (k b : Nat) (hb : 2 ≤ b) : 2 ^ k ≤ b ^ k := Nat.pow_le_pow_left hb k
theorem FS.of_szk {k : Nat} {q : Rat} (h : SzK k q) : FS k q :=
  ⟨D.wd_length (Nat.lt_of_lt_of_le h.1 (pow2_le k _ (by decide))), D.wd_length (Nat.lt_of_lt_of_le h.2 (pow2_le k _ (by decide)))⟩
theorem natT_le {k n : Nat} (h : n < 2 ^ (k + 1)) : (natT n).length ≤ k + 1 := (pad_repeat k n (Nat.lt_of_lt_of_le h (pow2_le _ _ (by decide)))).1
theorem natT_szk {k n : Nat} (h0 : 0 < k) (h : n < 2 ^ k) : (natT n).length ≤ k := by
  obtain ⟨j, rfl⟩ : ∃ j, k = j + 1 := ⟨k - 1, by omega⟩
  exact natT_le h
theorem wl_le {k n : Nat} (h : n < 2 ^ k) : (wd n).length ≤ k := wd_length (Nat.lt_of_lt_of_le h (pow2_le k _ (by decide)))
def qT (t : TQ) : Rat := qOf t.2.2.1 t.2.2.2
def itT (t : TQ) : Itm := ((t.1 : Int) - 2, (t.2.1 : Int) - 2, qT t)
/-- the additions inside the matrix -/
def itsT (r c : Nat) (l : List TQ) : List Itm := (l.map itT).filter (okI r c)
theorem itsT_len (r c : Nat) (l : List TQ) : (itsT r c l).length ≤ l.length := by
  unfold itsT
  exact Nat.le_trans (List.length_filter_le _ _) (by rw [List.length_map]; exact Nat.le_refl _)
theorem itsT_ok (r c : Nat) (l : List TQ) : (itsT r c l).all (okI r c) = true := by
  rw [List.all_eq_true]; intro x hx; exact (List.mem_filter.1 hx).2
theorem itsT_in {r c : Nat} {l : List TQ} {k : Nat} (hk : k < l.length) (h : okI r c (itT (l.getD k (0, 0, 0, 0))) = true) : itsT r c (l.take (k + 1)) = itsT r c (l.take k) ++ [itT (l.getD k (0, 0, 0, 0))] := by
  unfold itsT
  rw [take_getD l (0, 0, 0, 0) hk, List.map_append, List.filter_append, List.map_singleton, List.filter_cons, if_pos h, List.filter_nil]
theorem itsT_out {r c : Nat} {l : List TQ} {k : Nat} (hk : k < l.length) (h : okI r c (itT (l.getD k (0, 0, 0, 0))) = false) : itsT r c (l.take (k + 1)) = itsT r c (l.take k) := by
  unfold itsT
  rw [take_getD l (0, 0, 0, 0) hk, List.map_append, List.filter_append, List.map_singleton, List.filter_cons, if_neg (by rw [h]; decide), List.filter_nil, List.append_nil]
/-- the matrix that the additions so far give -/
def fT (r c : Nat) (l : List TQ) : Nat → Nat → Rat := foldA (fun _ _ => 0) ((itsT r c l).map toN)
theorem fT_in {r c : Nat} {l : List TQ} {k i j : Nat} {q : Rat} (hk : k < l.length) (h : itT (l.getD k (0, 0, 0, 0)) = ((i : Int), (j : Int), q)) (hi : i < r) (hj : j < c) :
    fT r c (l.take (k + 1)) = setF (fT r c (l.take k)) i j (fT r c (l.take k) i j + q) := by
  unfold fT
  rw [itsT_in hk (by rw [h]; unfold okI; simp; omega), List.map_append, List.map_singleton, foldA_snoc, h]
  rfl
theorem fT_out {r c : Nat} {l : List TQ} {k : Nat} (hk : k < l.length) (h : okI r c (itT (l.getD k (0, 0, 0, 0))) = false) : fT r c (l.take (k + 1)) = fT r c (l.take k) := by
  unfold fT; rw [itsT_out hk h]
theorem foldA_turn (A B : List (Nat × Nat × Rat)) : foldA (fun _ _ => 0) (B ++ A) = foldA (fun _ _ => 0) (A ++ B) := by
  funext i k
  rw [foldA_at, foldA_at, sumAt_append, sumAt_append, Rat.add_comm (sumAt B i k)]
theorem fT_turn (r c : Nat) (l : List TQ) (k : Nat) : foldA (fun _ _ => 0) (((itsT r c l).drop k ++ (itsT r c l).take k).map toN) = fT r c l := by
  rw [List.map_append, foldA_turn, ← List.map_append, List.take_append_drop]; rfl
theorem qT_szk {l : List TQ} (hok : TOk l) {t : TQ} (h : t ∈ l) : SzK 128 (qT t) := by
  obtain ⟨_, _, h1, h2, h3, h4⟩ := hok t h
  exact qOf_szk h1 h2 h3 h4
theorem itsT_szk {l : List TQ} (hok : TOk l) {r c : Nat} : ∀ x ∈ itsT r c l, SzK 128 x.2.2 := fun x hx => by
  obtain ⟨h1, _⟩ := List.mem_filter.1 hx
  obtain ⟨t, ht, rfl⟩ := List.mem_map.1 h1
  exact qT_szk hok ht
theorem fT_szk {l : List TQ} (hok : TOk l) (hl : l.length ≤ 30) (r c : Nat) : ∀ i k, SzK 4000 (fT r c l i k) := fun i k => by
  have h := SzK_foldAs (j := 128) (s := 1) (f := fun _ _ => (0 : Rat)) ((itsT r c l).map toN) (fun _ _ => SzK.zero) (fun x hx => by
    obtain ⟨y, hy, rfl⟩ := List.mem_map.1 hx
    exact itsT_szk hok y hy) i k
  refine h.mono ?_
  rw [List.length_map]
  have h1 := itsT_len r c l
  have h2 : (itsT r c l).length * (128 + 1) ≤ 30 * (128 + 1) := Nat.mul_le_mul_right _ (by omega)
  omega
theorem TOk.take {l : List TQ} (h : TOk l) (k : Nat) : TOk (l.take k) := fun x hx => h x (List.mem_of_mem_take hx)
end Gus
end
section
/- strconv.FormatUint at base 10, whatever the number. -/
namespace Gus
open Go Go.RowKit Go.Proofs Go.Sort
/-- the library's table of powers is laid -/
def TabW (w : World) : Prop := Lib.TabIs Tryz.prog w "internal/strconv.uint64pow10" .u64 Lib.pow10Tab
theorem TabW.call {w w' : World} (h : TabW w) (hb : Below w.heap.size w w') : TabW w' := (Lib.tabBelow_of_tabIs h) w' hb
theorem TabW.kept : Kept TabW := fun _ _ h hb => h.call hb
set_option maxHeartbeats 6400000 in
set_option maxRecDepth 100000 in
theorem ifuint_big (u : Nat) (h100 : 100 ≤ u) (hu64 : u < 18446744073709551616) (w : World) (htab : TabW w) :
    Calls Tryz.prog 141 #[.int .u64 u, .int .i64 10] w fun e w' => e = .returned (strV (natT u)) ∧ Below w.heap.size w w' := by
  have hu1 : 1 ≤ u := by omega
  have hnd20 : Lib.nDigits u ≤ 20 := by have := Lib.numDigits_eq u hu1 hu64; split at this <;> omega
  have hb3 : Lib.nDigits u ≤ 24 := by omega
  have hnd := fun W (h : TabW W) => Tryz.internal_strconv_numDigits u hu1 hu64 W h
  have hal : Tryz.prog.arrayLen 203 = 24 := by simp [Program.arrayLen, Tryz.underlying203]
  have hsl1 : ∀ W, (Instr.sliceAt 203 (.pointer (some ⟨w.heap.size, 0, none⟩)) none (some (.int .i64 (Lib.nDigits u : Int))) none).run Tryz.prog W = .ok (.slice (some ⟨w.heap.size, 0, none⟩) (Lib.nDigits u) 24) W := fun W => by
    rw [run_sliceAt_array_h W 203 ⟨w.heap.size, 0, none⟩ (by simp [Program.arrayLen, Program.elem, Tryz.underlying203]) .i64 (Lib.nDigits u : Int) (by omega) (by rw [hal]; omega)]
    go_simp
  have hH0 := Lib.holds_zero0 w 203 (Lib.nDigits u) (by omega)
  have hfmt := Tryz.internal_strconv_formatBase10 w.heap.size 0 24 u (Array.replicate (Lib.nDigits u) 0) (w.alloc (.cells Lib.zeros24 203)) hH0 (by rw [Array.size_replicate]; exact Lib.lt_pow_nDigits u) hu64 (by rw [Array.size_replicate]; omega)
  rw [Array.size_replicate] at hfmt
  have HH0 := Lib.hid hH0
  have ht := htab.call ((Below.refl _ _).alloc (Nat.le_refl _) (.cells Lib.zeros24 203))
  have h100I : ¬ (u : Int) < 100 := by omega
  clear hH0 hal htab
  go_enter Tryz.func141, Tryz.ntmps141
  go_wp2_with (go_at_call 138; refine (hnd _ ht).mono ?_; rintro e w' ⟨rfl, rfl⟩)
  go_at_call 139
  refine hfmt.mono ?_
  rintro e w' ⟨rfl, k, v', dk, rfl, hF⟩
  have hcv : (convert 144 9 (.slice (some ⟨w.heap.size, 0, none⟩) (Lib.nDigits u) 24)).run Tryz.prog ((putRow (fun (b : UInt8) => Value.int .u8 (b.toNat : Int)) (w.alloc (.cells Lib.zeros24 203)) w.heap.size 0 dk).drewN k) = .ok (.string ⟨(Lib.decDigits u).toArray⟩) ((putRow (fun (b : UInt8) => Value.int .u8 (b.toNat : Int)) (w.alloc (.cells Lib.zeros24 203)) w.heap.size 0 dk).drewN k) := by
    have h := run_convert_bytes_back (P := Tryz.prog) ((putRow (fun (b : UInt8) => Value.int .u8 (b.toNat : Int)) (w.alloc (.cells Lib.zeros24 203)) w.heap.size 0 dk).drewN k) 144 9 5 ⟨w.heap.size, 0, none⟩ 24 (Lib.decDigits u) Tryz.underlying144 Tryz.underlying5 Tryz.underlying9 (fun j hj => by
      rw [Lib.row_is_numeral hF j hj, Lib.add_plain, World.cell?_drewN]
      exact cell?_putRow (fun (b : UInt8) => Value.int .u8 (b.toNat : Int)) _ w.heap.size 0 _ dk HH0.out (by rw [hF.size, Array.size_replicate]) j (by rw [hF.size]; rw [Lib.decDigits_length] at hj; exact hj))
    rw [Lib.decDigits_length] at h
    exact h
  go_wp2
  go_ret
  obtain ⟨os, eo⟩ := Lib.fin_at w (.cells Lib.zeros24 203) dk k 0
  exact ⟨rfl, by rw [eo]; exact Lib.below_grow _ w (Nat.le_refl _) _ _⟩
set_option maxRecDepth 100000 in
theorem fuint_any (u : Nat) (hu64 : u < 18446744073709551616) (w : World) (htab : TabW w) :
    Calls Tryz.prog 117 #[.int .u64 u, .int .i64 10] w fun e w' => e = .returned (strV (natT u)) ∧ Below w.heap.size w w' := by
  by_cases h : u < 100
  · exact (fuint_small u h w).mono fun e w' ⟨h1, h2⟩ => ⟨h1, h2 ▸ Below.refl _ _⟩
  · have h1 := ifuint_big u (by omega) hu64 w htab
    generalize natT u = l at *
    clear htab
    go_enter Tryz.func117, Tryz.ntmps117
    go_wp2_with (go_at_call 141; (with_reducible refine h1.mono ?_); rintro e w' ⟨rfl, hb⟩)
    go_ret
    exact ⟨rfl, hb⟩
end Gus
end
section
/- nats.Text at any size. -/
namespace Gus
open Go Go.RowKit Go.Proofs Go.Sort
theorem itoa_any (i : Nat) (hi : i < 4294967296) (W : World) (hT : TabW W) : Calls Tryz.prog 35 #[.int .i64 i] W fun e w' => e = .returned (strV (natT i)) ∧ Below W.heap.size W w' :=
  (Tryz.strconv_Itoa i (by omega) (by omega) W hT).mono fun e w' ⟨h, k, os, h2⟩ => ⟨by rw [h, Lib.itoa_nonneg]; rfl, by rw [h2]; exact Lib.below_grow _ W (Nat.le_refl _) _ _⟩
/-- the parts written so far: m is what is left -/
def TxP (n m : Nat) (P : List (List UInt8)) : Prop := natT n = (if m = 0 then [] else natT m) ++ P.reverse.flatten ∧ P.length ≤ P.reverse.flatten.length
theorem TxP.start {n : Nat} (h : n ≠ 0) : TxP n n [] := ⟨by rw [if_neg h]; simp, Nat.zero_le _⟩
theorem TxP.len {n m : Nat} {P : List (List UInt8)} (h : TxP n m P) : P.length ≤ (natT n).length := by
  rw [h.1, List.length_append]
  have := h.2; omega
theorem natT_pos (n : Nat) : 1 ≤ (natT n).length := by
  unfold natT
  rw [Lib.decDigits]
  split <;> simp
theorem TxP.step {n m q r : Nat} {P : List (List UInt8)} {p : List UInt8} (h : TxP n m P) (hm : m ≠ 0) (hq : q = m / 1000000000) (hr : r = m % 1000000000) (hp : p = if q = 0 then natT r else pad 9 r) : TxP n q (P ++ [p]) := by
  obtain ⟨h1, h2⟩ := h
  rw [if_neg hm] at h1
  have hpl : 1 ≤ p.length := by
    rw [hp]; split
    · exact natT_pos _
    · rw [pad_length]; decide
  have e : natT m = (if q = 0 then [] else natT q) ++ p := by
    by_cases h0 : q = 0
    · rw [if_pos h0, hp, if_pos h0, List.nil_append]
      have : r = m := by omega
      rw [this]
    · rw [if_neg h0, hp, if_neg h0, hr, show (1000000000 : Nat) = 10 ^ 9 from rfl, pad_mod]
      have := dec_pad 9 m (by rw [show (10 : Nat) ^ 9 = 1000000000 from rfl]; omega)
      rw [show (10 : Nat) ^ 9 = 1000000000 from rfl, ← hq] at this
      exact this
  refine ⟨?_, ?_⟩
  · rw [List.reverse_append, h1, e]; simp
  · rw [List.length_append, List.reverse_append]
    show P.length + 1 ≤ (p ++ P.reverse.flatten).length
    rw [List.length_append]; omega
theorem repeat_zeros : ∀ c, Lib.repeatL [48] c = List.replicate c 48
  | 0 => rfl
  | c + 1 => by show [48] ++ Lib.repeatL [48] c = _; rw [repeat_zeros c]; rfl
theorem join_flat (xs : List (List UInt8)) : Lib.join xs [] = xs.flatten := by
  unfold Lib.join
  induction xs with
  | nil => rfl
  | cons x xs ih =>
    cases xs with
    | nil => simp [List.intercalate]
    | cons y ys => simp only [List.intercalate, List.intersperse] at ih ⊢; simp at ih ⊢; exact ih
theorem ownsRow_belS {w w' : World} {lo size n : Nat} {e : TypeId} {v : Value} {xs : List Value} (h : w.ownsRow lo e size v n xs) (hb : Below w.heap.size w w') : w'.ownsRow lo e size v n xs := by
  refine ⟨h.1, ?_⟩
  rcases h.2 with h2 | ⟨g, cap, cur, rfl, h0, hg, h1⟩
  · exact .inl h2
  · exact .inr ⟨g, cap, cur, rfl, h0, (hb.block g (Array.getElem?_eq_some_iff.1 hg).1).trans hg, h1⟩
theorem ownsRow_neS {w : World} {lo size n b : Nat} {e T : TypeId} {v : Value} {xs cs : List Value} (h : w.ownsRow lo e size v n xs) (hB : Bx w b T cs) (hT : e ≠ T) : v.ownBlock ≠ some b := fun hk => by
  rcases h.2 with ⟨rfl, _⟩ | ⟨g, cap, cur, rfl, h0, hg, h1⟩
  · simp [Value.ownBlock] at hk
  · simp [Value.ownBlock] at hk
    subst hk
    have h6 : w.heap[g]? = some (Obj.cells cs.toArray T (0, 0)) := hB
    rw [hg] at h6
    injection h6 with h7
    injection h7 with _ h8
    exact hT h8
theorem ownsRow_consS {w : World} {base : Nat} {T : TypeId} {s : Nat} {v : Value} {n : Nat} {xs : List Value} (h : w.ownsRow base T s v (n + 1) xs) : ∃ g c, v = .slice (some ⟨g, 0, none⟩) (n + 1) c := by
  rcases h.2 with ⟨_, hn⟩ | ⟨g, c, cur, h9, _⟩
  · omega
  · exact ⟨g, c, h9⟩
/-- the length of a slice -/
def lenV : Value → Nat | .slice _ n _ => n | _ => 0
set_option maxRecDepth 100000 in
set_option maxHeartbeats 8000000 in
theorem natText_big (n : Nat) (hn : (wd n).length ≤ 1099511627776) (hl : (natT n).length ≤ 1099511627776) (hbig : ¬ n < 18446744073709551616) (w : World) (ht : TabW w) :
    Calls Tryz.prog 74 #[natV n] w fun e w' => e = .returned (strV (natT n)) ∧ Below w.heap.size w w' := by
  obtain ⟨i0, hi0, hi1, hi2, hi3⟩ := info_parts info_str
  have cw := fun W => words_any n hn W
  have hne : (bg n).toList.isEmpty = false := by
    have : ¬ (bg n).toList = [] := fun e => hbig ((bg_small_iff n).1 e)
    cases he : (bg n).toList with
    | nil => exact absurd he this
    | cons _ _ => rfl
  unfold natV at cw ⊢
  generalize lo n = lw at *
  generalize bg n = bw at *
  obtain ⟨N, hN⟩ : ∃ N, N = (natT n).length := ⟨_, rfl⟩
  rw [← hN] at hl
  have HN := Lib.hid hN
  have HB := Lib.hid hbig
  clear hN hbig
  obtain ⟨X, hX⟩ : ∃ X, X = w.heap.size := ⟨_, rfl⟩
  go_enter Tryz.func74, Tryz.ntmps74
  go_wp2_with fail
  have hin : In X w (w.alloc (.cells #[.int .u64 lw, .string bw] 50)) := by rw [hX]; exact (In.self w).alloc _
  ((with_reducible refine (cw _).mono ?_))
  rintro e W1 ⟨b, xs, rfl, hb, htk, hle, hle2, hdg, hbl, hbel⟩
  replace hin := hin.call hbel
  have ht1 := ht.call (by rw [← hX]; exact hin.bel)
  have hXb : X ≤ b := by rw [World.size_alloc] at hbl; omega
  have HTK := Lib.hid htk
  have HX := Lib.hid hX
  clear hbel cw hbl htk hX
  go_wp2_with fail
  go_loopw [3, 4] (fun v3 v4 wr => ∃ (m : Nat) (P : List (List UInt8)) (b cap : Nat) (xs : List Nat) (pv : Value), v3 = pv ∧ v4 = .slice (some ⟨b, 0, none⟩) (wd m).length cap ∧ Blk wr b xs ∧ Digs xs ∧ Hid (xs.take (wd m).length = wd m) ∧ (wd m).length ≤ xs.length ∧ (wd m).length ≤ cap ∧ cap ≤ 1099511627776 ∧ wr.ownsRow X 9 1 pv P.length (P.map encStr) ∧ In X w wr ∧ Hid (TxP n m P) ∧ Hid (m ≤ n)) (fun v3 _ _ => N + 1 - lenV v3)
  case atStart => exact ⟨n, [], b, xs.length, xs, _, rfl, rfl, hb, hdg, HTK, hle, hle, hle2, World.ownsRow_nil _ _ _ _, hin, Lib.hid (TxP.start (fun h => HB.out (by omega))), Lib.hid (Nat.le_refl _)⟩
  case round =>
    rename World => wr
    clear hb hdg hle hle2 HTK hin ht1
    obtain ⟨m, P, b, cap, xs, v3, hv3, rfl, hb, hdg, HTK, hle, hcp, hcap, hown, hin, HP, HM⟩ := hrel
    obtain rfl := hv3.symm
    have hPN : P.length ≤ N := by rw [HN.out]; exact TxP.len HP.out
    have hlv : lenV v3 = P.length := by
      rcases hown.2 with ⟨rfl, h0⟩ | ⟨g, c, cur, rfl, _⟩
      · exact h0.symm
      · rfl
    by_cases hm : m = 0
    · subst hm
      have hfl : natT n = P.reverse.flatten := by have := HP.out.1; rwa [if_pos rfl, List.nil_append] at this
      have hP0 : P ≠ [] := fun h => by
        rw [h] at hfl
        have := natT_pos n
        rw [hfl] at this
        exact absurd this (by simp)
      obtain ⟨g, gc, hve, hgX, hgl, _, _, hzl, hH⟩ := Lib.holds_of_ownsRow hown (fun h => by
        rw [h] at hlv
        have := List.length_pos_iff.2 hP0
        simp only [lenV] at hlv
        omega)
      subst hve
      have cr := Tryz.slices_Reverse_string g 0 gc P wr hH (by omega)
      have hrow := fun q => Lib.ownsRow_putRow (q := q) (k := P.length) hown (ys := P.reverse) (List.length_reverse) (Nat.le_refl _)
      have hbl := fun q => Lib.below_putRow (enc := encStr) (q := q) (d := P.reverse.toArray) hin.bel hgX
      have hpl := List.length_pos_iff.2 hP0
      obtain ⟨pl, hple⟩ : ∃ pl, pl = P.length := ⟨_, rfl⟩
      rw [← hple] at cr hpl hPN hown hlv hzl ⊢
      have HPL := Lib.hid hple
      have HFL := Lib.hid hfl
      have HROW := Lib.hid hrow
      have HBL := Lib.hid hbl
      clear hown hH hrow hbl hP0 hple hfl hin hb
      rw [show (wd 0).length = 0 from rfl]
      go_wp2_with fail
      (refine cr.mono ?_)
      rintro e w5 ⟨rfl, q5, rfl⟩
      have hrow := HROW.out q5
      have hbl := HBL.out q5
      rw [← HPL.out, List.take_of_length_le (by rw [List.length_reverse, ← HPL.out]; exact Nat.le_refl _)] at hrow
      generalize putRow encStr (Go.Sort.ahead wr q5) g 0 P.reverse.toArray = W5 at *
      have hxl : (P.reverse.map fun l => (⟨l.toArray⟩ : ByteArray)).length = pl := by rw [List.length_map, List.length_reverse, HPL.out]
      have hjf : Lib.join ((P.reverse.map fun l => (⟨l.toArray⟩ : ByteArray)).map (·.data.toList)) [] = natT n := by
        rw [join_flat, HFL.out, List.map_map]
        congr 1
        conv => rhs; rw [← List.map_id P.reverse]
        exact List.map_congr_left fun x _ => by simp
      have hcells := fun j u (hj : (P.reverse.map encStr)[j]? = some u) => hrow.cells (g := g) rfl j u hj
      have cj := Tryz.strings_Join g 0 gc (P.reverse.map fun l => (⟨l.toArray⟩ : ByteArray)) ⟨#[]⟩ W5 (fun j x hx => by
        rw [List.getElem?_map] at hx
        cases hp : P.reverse[j]? with
        | none => rw [hp] at hx; cases hx
        | some y =>
          rw [hp] at hx
          cases hx
          have := hcells j (encStr y) (by rw [List.getElem?_map, hp]; rfl)
          rw [Addr.add_lit] at this
          exact this) (hrow.lt g rfl).2 (by rw [hxl]; omega) (by rw [hxl]; exact (by rcases hrow.2 with ⟨h, _⟩ | ⟨_, _, _, h, _, _, h1, _⟩; cases h; cases h; exact h1)) (by rw [show (⟨#[]⟩ : ByteArray).data.toList = [] from rfl, hjf, ← HN.out]; omega)
      rw [hxl, show (⟨#[]⟩ : ByteArray).data.toList = [] from rfl, hjf] at cj
      clear hrow hcells cr
      go_wp2_with fail
      (refine cj.mono ?_)
      rintro e w6 ⟨rfl, hb6⟩
      have HB6 := Lib.hid (hbl.trans (hb6.mono (by rw [HX.out]; exact hbl.size)))
      clear cj hb6 hbl
      go_wp2_with fail
      go_ret
      exact ⟨rfl, by rw [← HX.out]; exact HB6.out⟩
    · have hkp : 0 < (wd m).length := by
        refine Nat.pos_of_ne_zero fun h => hm ?_
        have := wd_val m
        rw [List.length_eq_zero_iff.1 h] at this
        exact this.symm
      obtain ⟨K, hK⟩ : ∃ K, K = (wd m).length := ⟨_, rfl⟩
      have hK40 : K ≤ 1099511627776 := by omega
      have cs := short_any wr b K cap 1000000000 xs hb hdg (by omega) hK40 (by decide) (by decide)
      rw [show ((1000000000 : Nat) : Int) = 1000000000 from rfl] at cs
      have hvm : val (xs.take K) = m := by rw [hK, HTK.out, wd_val]
      rw [← hK] at hkp ⊢
      rw [hvm] at cs
      have hkI : (0 : Int) < K := by omega
      have HOWN := Lib.hid hown
      have hsz0 := hin.siz
      obtain ⟨w1b, hw1b⟩ : ∃ z, z = wr.heap.size := ⟨_, rfl⟩
      rw [← hw1b] at cs hsz0
      clear hK hvm HTK hb hdg hle hcp hown
      go_wp2_with fail
      (refine cs.mono ?_)
      rintro e w2 ⟨qs, r, rfl, hb2, hql, hdq, hr, hv2, hbel⟩
      have hin2 := hin.call (by rw [← hw1b]; exact hbel)
      have hown2 := ownsRow_belS HOWN.out (by rw [← hw1b]; exact hbel)
      obtain ⟨q, hq⟩ : ∃ q, q = val qs := ⟨_, rfl⟩
      have hqm : q = m / 1000000000 ∧ r = m % 1000000000 := by rw [← hq] at hv2; omega
      have ck := cut_any w2 w1b K K qs hb2 hdq (by omega) (Nat.le_refl _) (by omega)
      have HQ0 := Lib.hid hq
      have HQM := Lib.hid hqm
      have HRR := Lib.hid hr
      clear cs HOWN hin hbel hw1b hq hqm hv2 hr
      go_wp2_with fail
      (refine ck.mono ?_)
      rintro e w3 ⟨⟨k, hkK, rfl, htk⟩, rfl⟩
      rw [show qs.take K = qs from List.take_of_length_le (by omega), ← HQ0.out] at htk
      have hr := HRR.out
      have hkl : k = (wd q).length := by
        have := congrArg List.length htk
        rw [List.length_take] at this; omega
      have HQT : Hid (qs.take (wd q).length = wd q) := Lib.hid (by rw [← hkl]; exact htk)
      have HQL := Lib.hid hql
      have HMQ : Hid (q ≤ n) := Lib.hid (by have := HM.out; have := HQM.out; omega)
      have ht2 := ht.call (by rw [← HX.out]; exact hin2.bel)
      have ci := itoa_any r (by omega) w2 ht2
      have hpr := pad_repeat 8 r (by rw [show (10 : Nat) ^ (8 + 1) = 1000000000 from rfl]; exact hr)
      obtain ⟨l, hl9⟩ : ∃ l, l = natT r := ⟨_, rfl⟩
      rw [← hl9] at ci
      rw [show Lib.decDigits r = l from hl9.symm] at hpr
      have HL9 := Lib.hid hl9
      have HPR := Lib.hid hpr.2
      have hll : l.length ≤ 9 := hpr.1
      have hwr : wrap64 (r : Int) = r := IntWalk.wrap64_in _ (by omega)
      clear hl9 hpr ck htk hql ht2 hr
      have HK2 := Lib.hid hkl
      have hkq : k ≤ K := hkK
      clear hkl hkK
      go_wp2_with fail
      (refine ci.mono ?_)
      rintro e w4 ⟨rfl, hb4⟩
      have HIN := Lib.hid (hin2.call hb4)
      have HOWN := Lib.hid (ownsRow_belS hown2 hb4)
      have HBQ := Lib.hid (hb2.call hb4)
      clear ci hb4 hin2 hown2 hb2
      by_cases hq0 : k = 0
      · have hqz : q = 0 := by
          have := wd_val q
          rw [List.length_eq_zero_iff.1 (HK2.out.symm.trans hq0)] at this
          exact this.symm
        have HP2 : Hid (TxP n q (P ++ [l])) := Lib.hid (TxP.step HP.out hm HQM.out.1 HQM.out.2 (by rw [if_pos hqz]; exact HL9.out))
        have hs0 : k = 0 := hq0
        subst hq0
        have hal := Lib.hid hs0
        go_wp2_with (at_builtin; go_loud (refine wpList_append_own _ rfl (.tmp 38) (.tmp 40) 115 rfl X 9 i0 (.string ⟨#[]⟩) 1 16 Tryz.underlying115 hi0 hi1 hi2 hi3 rfl (by decide) v3 P.length (P.map encStr) rfl (HOWN.out.alloc _) ⟨w4.heap.size, 0, none⟩ 1 1 [strV l] rfl rfl ?c1 ?c2 ?c3 ?c4 ?c5 ?_))
        case c1 => intro j u hj; rw [Addr.add_lit, Nat.zero_add, (Bx.new_at w4 #[strV l] 9 rfl).cell j]; exact hj
        case c2 => (first | rfl | (intro u hu; simp only [List.mem_cons, List.not_mem_nil, or_false] at hu; subst hu; rfl))
        case c3 => simp only [maxLen]; omega
        case c4 => omega
        case c5 => rw [World.size_alloc]; have := HIN.out.siz; omega
        intro v' w5 hown5 hgr _
        have hin5 : In X w w5 := by
          have h5 := HIN.out.alloc (.cells #[strV l] 9)
          exact ⟨h5.bel.grown hgr h5.siz (fun k h => (World.ownsRow.lt HOWN.out k h).1), Nat.le_trans h5.siz hgr.size⟩
        have hb5 := (HBQ.out.alloc (.cells #[strV l] 9)).grown hgr (fun h => (ownsRow_neS (HOWN.out.alloc (.cells #[strV l] 9)) (show Bx _ w1b 33 (qs.map u32v) from HBQ.out.alloc _) (by decide)) h.symm)
        have HR5 : Hid (w5.ownsRow X 9 1 v' (P ++ [l]).length ((P ++ [l]).map encStr)) := Lib.hid (by
          rw [List.length_append, List.map_append]; exact hown5)
        have HIN5 := Lib.hid hin5
        have HB5 := Lib.hid hb5
        obtain ⟨g9, c9, rfl⟩ : ∃ g9 c9, v' = .slice (some ⟨g9, 0, none⟩) (P.length + 1) c9 := by exact ownsRow_consS hown5
        clear hown5 hgr hin5 hb5 HOWN HIN HBQ hal
        go_wp2_with fail
        exact ⟨⟨q, P ++ [l], w1b, K, qs, _, rfl, by rw [← HK2.out], HB5.out, hdq, HQT, by rw [← HK2.out, HQL.out]; exact hkq, by rw [← HK2.out]; exact hkq, hK40, HR5.out, HIN5.out, HP2, HMQ⟩, by show N + 1 - (P.length + 1) < N + 1 - lenV v3; rw [hlv]; omega⟩
      · have hqz : q ≠ 0 := fun h => hq0 (by rw [HK2.out, h]; rfl)
        have hkI2 : (0 : Int) < k := by omega
        have crp := fun W => Tryz.strings_Repeat ⟨#[48]⟩ (9 - l.length) W (by omega) (by rw [show (⟨#[48]⟩ : ByteArray).size = 1 from rfl]; omega)
        rw [show (⟨#[48]⟩ : ByteArray).data.toList = [48] from rfl, repeat_zeros, show ((9 - l.length : Nat) : Int) = 9 - (l.length : Int) by omega] at crp
        obtain ⟨rp, hrp⟩ : ∃ rp, rp = List.replicate (9 - l.length) (48 : UInt8) := ⟨_, rfl⟩
        rw [← hrp] at crp
        have hrl : rp.length ≤ 9 := by rw [hrp, List.length_replicate]; omega
        have hsz : ¬ 9223372036854775807 < rp.length + l.length := by omega
        obtain ⟨s, hs⟩ : ∃ s, s = rp ++ l := ⟨_, rfl⟩
        have hbc := bcat rp l
        rw [← hs] at hbc
        have HP2 : Hid (TxP n q (P ++ [s])) := Lib.hid (TxP.step HP.out hm HQM.out.1 HQM.out.2 (by rw [if_neg hqz, hs, hrp]; exact HPR.out.symm))
        have HS := Lib.hid hs
        clear hs hrp
        go_wp2_with fail
        (refine (crp _).mono ?_)
        rintro e w6 ⟨rfl, hb6⟩
        replace HIN := Lib.hid (HIN.out.call hb6)
        replace HOWN := Lib.hid (ownsRow_belS HOWN.out hb6)
        replace HBQ := Lib.hid (HBQ.out.call hb6)
        have hs0 : k = k := rfl
        clear crp hb6
        have hal := Lib.hid hs0
        go_wp2_with (at_builtin; go_loud (refine wpList_append_own _ rfl (.tmp 38) (.tmp 40) 115 rfl X 9 i0 (.string ⟨#[]⟩) 1 16 Tryz.underlying115 hi0 hi1 hi2 hi3 rfl (by decide) v3 P.length (P.map encStr) rfl (HOWN.out.alloc _) ⟨w6.heap.size, 0, none⟩ 1 1 [strV s] rfl rfl ?c1 ?c2 ?c3 ?c4 ?c5 ?_))
        case c1 => intro j u hj; rw [Addr.add_lit, Nat.zero_add, (Bx.new_at w6 #[strV s] 9 rfl).cell j]; exact hj
        case c2 => (first | rfl | (intro u hu; simp only [List.mem_cons, List.not_mem_nil, or_false] at hu; subst hu; rfl))
        case c3 => simp only [maxLen]; omega
        case c4 => omega
        case c5 => rw [World.size_alloc]; have := HIN.out.siz; omega
        intro v' w5 hown5 hgr _
        have hin5 : In X w w5 := by
          have h5 := HIN.out.alloc (.cells #[strV s] 9)
          exact ⟨h5.bel.grown hgr h5.siz (fun k h => (World.ownsRow.lt HOWN.out k h).1), Nat.le_trans h5.siz hgr.size⟩
        have hb5 := (HBQ.out.alloc (.cells #[strV s] 9)).grown hgr (fun h => (ownsRow_neS (HOWN.out.alloc (.cells #[strV s] 9)) (show Bx _ w1b 33 (qs.map u32v) from HBQ.out.alloc _) (by decide)) h.symm)
        have HR5 : Hid (w5.ownsRow X 9 1 v' (P ++ [s]).length ((P ++ [s]).map encStr)) := Lib.hid (by
          rw [List.length_append, List.map_append]; exact hown5)
        have HIN5 := Lib.hid hin5
        have HB5 := Lib.hid hb5
        obtain ⟨g9, c9, rfl⟩ : ∃ g9 c9, v' = .slice (some ⟨g9, 0, none⟩) (P.length + 1) c9 := by exact ownsRow_consS hown5
        clear hown5 hgr hin5 hb5 HOWN HIN HBQ hal
        go_wp2_with fail
        exact ⟨⟨q, P ++ [s], w1b, K, qs, _, rfl, by rw [← HK2.out], HB5.out, hdq, HQT, by rw [← HK2.out, HQL.out]; exact hkq, by rw [← HK2.out]; exact hkq, hK40, HR5.out, HIN5.out, HP2, HMQ⟩, by show N + 1 - (P.length + 1) < N + 1 - lenV v3; rw [hlv]; omega⟩
/-- nats.Text, whatever the number -/
theorem natText_any (n : Nat) (hn : (wd n).length ≤ 1099511627776) (hl : (natT n).length ≤ 1099511627776) (w : World) (ht : TabW w) :
    Calls Tryz.prog 74 #[natV n] w fun e w' => e = .returned (strV (natT n)) ∧ Below w.heap.size w w' := by
  by_cases h : n < 18446744073709551616
  · have h1 := fun W (hW : TabW W) => fuint_any n h W hW
    have ht2 := ht.call ((Below.refl _ _).alloc (Nat.le_refl _) (.cells #[.int .u64 (n : Int), .string ⟨#[]⟩] 50))
    have e1 : lo n = n := lo_small h
    have e2 : bg n = ⟨#[]⟩ := bg_small h
    unfold natV
    rw [e1, e2]
    generalize natT n = l at *
    clear e1 e2 hl hn
    go_enter Tryz.func74, Tryz.ntmps74
    go_wp2_with fail
    (refine (h1 _ ht2).mono ?_)
    rintro e w' ⟨rfl, hb⟩
    have HB := Lib.hid (((Below.refl _ w).alloc (Nat.le_refl _) (.cells #[.int .u64 (n : Int), .string ⟨#[]⟩] 50)).trans (hb.mono (by rw [World.size_alloc]; omega)))
    clear hb h1 ht2 ht
    go_wp2_with fail
    go_ret
    exact ⟨rfl, HB.out⟩
  · exact natText_big n hn hl h w ht
end Gus
end
section
/- The reference's texts: gussetref01.Text, gussetref02.Text. -/
namespace Gus
open Go Go.RowKit Go.Proofs
set_option maxRecDepth 100000 in
set_option maxHeartbeats 4000000 in
theorem rtext_any (w : World) (v : Value) (n : Nat) (h : NV w v n) (hl : (D.wd n).length ≤ 1099511627776) :
    Calls Tryz.prog 77 #[v] w fun e w' => e = .returned (strV (natT n)) ∧ w = w' := by
  obtain ⟨a, cap, rfl, _, _, hA⟩ := h
  obtain ⟨L, hL⟩ : ∃ L, L = (D.wd n).length := ⟨_, rfl⟩
  rw [← hL] at hl ⊢
  have HL := Lib.hid hL
  have HA := Lib.hid hA
  clear hA hL
  go_enter Tryz.func77, Tryz.ntmps77
  by_cases h0 : L = 0
  · have hn : n = 0 := by
      have h1 := D.wd_val n
      rw [List.length_eq_zero_iff.1 (HL.out.symm.trans h0)] at h1
      exact h1.symm
    have HN : Hid (natT n = [48]) := Lib.hid (by rw [hn]; unfold natT; rw [dec_small (by decide)]; rfl)
    subst h0
    clear hn
    go_wp2_with fail
    go_ret
    exact ⟨show Ending.returned (strV [48]) = .returned (strV (natT n)) by rw [HN.out], rfl⟩
  · have hI : ((L : Int) == 0) = false := by rw [beq_eq_false_iff_ne]; omega
    have hI2 : ¬ (L : Int) = 0 := by omega
    go_wp2_with fail
    go_loop [3, 4] (fun v3 v4 => ∃ (i : Nat) (s : List UInt8), i ≤ L ∧ v4 = .int .i64 (i : Nat) ∧ v3 = strV s ∧ Hid (TxO n L i s) ∧ s.length ≤ 4 * i) (fun _ v4 => L - (RowKit.intOf v4).toNat)
    case atStart => exact ⟨0, [], Nat.zero_le _, rfl, rfl, Lib.hid (.inl ⟨by omega, rfl⟩), Nat.le_refl _⟩
    case round =>
      obtain ⟨i, s, hi, rfl, rfl, HT, hsl⟩ := hrel
      by_cases hiL : i < L
      · have hiI : (i : Int) < L := by omega
        have hi0 : (0 : Int) ≤ i := by omega
        obtain ⟨b, off, rfl, hb, hx⟩ := DsAt.at HA.out (i := i) (by rw [← HL.out]; exact hiL)
        obtain ⟨x, hx'⟩ : ∃ x, x = (D.wd n).getD i 0 := ⟨_, rfl⟩
        rw [← hx'] at hx
        have HI0 : Hid (TxI n i L 0 x s) := Lib.hid (by rw [hx']; exact TxI.start HT.out hiL)
        clear hx'
        go_wp2_with fail
        go_loop [3, 5, 6] (fun v3 v5 v6 => ∃ (k d : Nat) (s : List UInt8), k ≤ 4 ∧ v6 = .int .i64 (k : Nat) ∧ v5 = .int .i64 (d : Nat) ∧ v3 = strV s ∧ Hid (TxI n i L k d s) ∧ s.length ≤ 4 * i + k) (fun _ _ v6 => 4 - (RowKit.intOf v6).toNat)
        case atStart => exact ⟨0, x, s, by omega, rfl, rfl, rfl, HI0, hsl⟩
        case round =>
          clear hsl
          obtain ⟨k, d, s, hk, rfl, rfl, rfl, HT2, hsl⟩ := hrel
          have hd := TxI.lt HT2.out
          have hkw : IntKind.i64.wrap ((k : Int) + 1) = ((k + 1 : Nat) : Int) := IntWalk.i64_in _ (by omega)
          by_cases hgo : k < 4 ∧ (i + 1 < L ∨ 0 < d)
          · obtain ⟨hk4, hgo⟩ := hgo
            have hkI : (k : Int) < 4 := by omega
            have hen := enc_digit (d % 10) (Nat.mod_lt _ (by decide))
            rw [show ((d % 10 : Nat) : Int) = (d : Int) % 10 by omega] at hen
            obtain ⟨c, hc⟩ : ∃ c, c = UInt8.ofNat (48 + d % 10) := ⟨_, rfl⟩
            rw [← hc] at hen
            have hsz : ¬ 9223372036854775807 < 1 + s.length := by omega
            have HCat := Lib.hid (bcat [c] s)
            have HF : Hid (TxI n i L (k + 1) (d / 10) (c :: s)) := Lib.hid (by rw [hc]; exact TxI.step HT2.out hk4 hgo)
            have H3 : Hid ((c :: s).length ≤ 4 * i + (k + 1)) := Lib.hid (by rw [List.length_cons]; omega)
            clear hc
            by_cases hi1 : i + 1 < L
            · have hi1I : (i : Int) + 1 < L := by omega
              clear hgo
              go_wp2_with fail
              exact ⟨⟨k + 1, d / 10, c :: s, by omega, by go_num, rfl, congrArg Value.string HCat.out, HF, H3.out⟩, by simp [RowKit.intOf]; omega⟩
            · have hi1I : ¬ (i : Int) + 1 < L := by omega
              have hdN : 0 < d := by omega
              have HD := Lib.hid hd
              have HEN := Lib.hid hen
              have HSZ := Lib.hid hsz
              clear hgo hi1 hd hen hsz
              go_upto_region 11 with fail
              have hen := HEN.out
              have hsz := HSZ.out
              have hd := HD.out
              clear hdN
              go_wp2_with fail
              exact ⟨⟨k + 1, d / 10, c :: s, by omega, by go_num, rfl, congrArg Value.string HCat.out, HF, H3.out⟩, by simp [RowKit.intOf]; omega⟩
          · have hx : k = 4 ∨ (i + 1 = L ∧ d = 0) := by omega
            have HO : Hid (TxO n L (i + 1) s) := Lib.hid (TxI.fin HT2.out HL.out hiL hk hx)
            have hiw : IntKind.i64.wrap ((i : Int) + 1) = ((i + 1 : Nat) : Int) := IntWalk.i64_in _ (by omega)
            have H3 : Hid (s.length ≤ 4 * (i + 1)) := Lib.hid (by omega)
            by_cases hk4 : k = 4
            · have hkI : ¬ (k : Int) < 4 := by omega
              clear hgo hx
              go_wp2_with fail
              exact ⟨⟨i + 1, s, by omega, by go_num, rfl, HO, H3.out⟩, by simp [RowKit.intOf]; omega⟩
            · have hkI : (k : Int) < 4 := by omega
              have hd0 : ¬ (0 : Int) < d := by omega
              have hi1I : ¬ (i : Int) + 1 < L := by omega
              clear hgo hx
              go_wp2_with fail
              exact ⟨⟨i + 1, s, by omega, by go_num, rfl, HO, H3.out⟩, by simp [RowKit.intOf]; omega⟩
      · have hiI : ¬ (i : Int) < L := by omega
        have HF : Hid (s = natT n) := Lib.hid (by
          rcases HT.out with ⟨h1, _⟩ | ⟨_, h1⟩
          · omega
          · exact h1)
        go_wp2_with fail
        go_ret
        exact ⟨show Ending.returned (strV s) = .returned (strV (natT n)) by rw [HF.out], rfl⟩
set_option maxRecDepth 100000 in
set_option maxHeartbeats 2000000 in
theorem rztext_any (w : World) (v : Value) (z : Int) (h : ZV w v z) (hl : (D.wd z.natAbs).length ≤ 1099511627776) (hl2 : (natT z.natAbs).length ≤ 1099511627776) :
    Calls Tryz.prog 76 #[v] w fun e w' => e = .returned (strV (intT z)) ∧ Below w.heap.size w w' := by
  obtain ⟨u, rfl, hu⟩ := h
  obtain ⟨a, cap, rfl, _⟩ := id hu
  have h1 : ∀ o, Calls Tryz.prog 77 #[.slice a (D.wd z.natAbs).length cap] (w.alloc o) fun e w' => e = .returned (strV (natT z.natAbs)) ∧ Below (w.alloc o).heap.size (w.alloc o) w' := fun o =>
    (rtext_any _ _ _ (hu.call ((Below.refl _ _).alloc (Nat.le_refl _) o)) hl).mono fun e w' ⟨h, e2⟩ => ⟨h, e2 ▸ Below.refl _ _⟩
  unfold intT
  generalize (D.wd z.natAbs).length = k at *
  by_cases hz : z < 0
  · rw [decide_eq_true hz, if_pos hz]
    generalize natT z.natAbs = l at *
    have hl1 : 1 + l.length ≤ 9223372036854775807 := by omega
    clear hu hz
    go_enter Tryz.func76, Tryz.ntmps76
    go_wp2_with fail
    (((with_reducible refine (h1 _).mono ?_)); rintro e w' ⟨rfl, hb⟩; have h := (In.self _).call hb; (try simp only [World.size_alloc] at h); (try simp only [World.size_setCell] at h); clear hb; have hc := h.cell; have hf := h.frozen)
    go_wp2_with fail
    go_ret
    exact ⟨str_eq (bcat [45] l), by (refine In.bel ?_; (repeat (first | (refine In.setCell ?_ (by first | omega | (simp; done) | (simp; omega)) _) | (refine In.alloc ?_ _) | (refine In.drew ?_))); (first | exact In.self _ | (refine In.out h ?_ (by first | omega | (simp; done) | (simp; omega)); (repeat (first | (refine In.setCell ?_ (by first | omega | (simp; done) | (simp; omega)) _) | (refine In.alloc ?_ _) | (refine In.drew ?_))); exact In.self _)))⟩
  · rw [decide_eq_false hz, if_neg hz]
    generalize natT z.natAbs = l at *
    clear hu hz
    go_enter Tryz.func76, Tryz.ntmps76
    go_wp2_with fail
    (((with_reducible refine (h1 _).mono ?_)); rintro e w' ⟨rfl, hb⟩; have h := (In.self _).call hb; (try simp only [World.size_alloc] at h); (try simp only [World.size_setCell] at h); clear hb; have hc := h.cell; have hf := h.frozen)
    go_wp2_with fail
    go_ret
    exact ⟨rfl, by (refine In.bel ?_; (repeat (first | (refine In.setCell ?_ (by first | omega | (simp; done) | (simp; omega)) _) | (refine In.alloc ?_ _) | (refine In.drew ?_))); (first | exact In.self _ | (refine In.out h ?_ (by first | omega | (simp; done) | (simp; omega)); (repeat (first | (refine In.setCell ?_ (by first | omega | (simp; done) | (simp; omega)) _) | (refine In.alloc ?_ _) | (refine In.drew ?_))); exact In.self _)))⟩
end Gus
end
