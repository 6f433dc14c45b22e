import Derived.Test.YtakblfhmllgepaaGreatDoorNatB
import Derived.Laws.BytesArg
namespace Gus
open Go Go.RowKit Go.Proofs
def u8v (c : UInt8) : Value := .int .u8 (c.toNat : Int)
theorem info_u8 : (Tryz.prog.info? 5).map (fun i => (i.zero, i.size, i.bytes)) = some (some (.int .u8 0), 1, 1) := by kernel_rfl
theorem acc_step (v x j : Nat) (hj : j < 2) (hx : x < 4294967296) (hv : v < 4294967296 ^ j) :
    bits .or .u64 (v : Int) (IntKind.u64.wrap ((x : Int) * 2 ^ (32 * j))) = ((v + x * 4294967296 ^ j : Nat) : Int) := by
  have hp : ∀ m : Nat, ((2 : Int) ^ m) = ((2 ^ m : Nat) : Int) := fun m => by simp
  rw [hp]
  have hw : ∀ n : Int, IntKind.u64.wrap n = n % 18446744073709551616 := fun n => by simp [IntKind.wrap, IntKind.bits, IntKind.signed]
  rw [hw]
  have hj' : j = 0 ∨ j = 1 := by omega
  rcases hj' with rfl | rfl
  · simp only [Nat.mul_zero, Nat.pow_zero, Nat.mul_one] at *
    have e : ((x : Int) * ((1 : Nat) : Int) % 18446744073709551616) = ((x : Nat) : Int) := by omega
    rw [e, or_join_u64 _ _ 0 (by simp only [Nat.pow_zero]; omega) (by simp only [Nat.pow_zero]; omega) (by omega) (by omega)]
  · simp only [Nat.mul_one, Nat.pow_one, Nat.reducePow] at *
    have e : ((x : Int) * ((4294967296 : Nat) : Int) % 18446744073709551616) = ((x * 4294967296 : Nat) : Int) := by omega
    rw [e, or_join_u64 _ _ 32 (by simp only [Nat.reducePow]; omega) (by simp only [Nat.reducePow]; omega) (by omega) (by omega)]
theorem byts_take_succ (xs : List Nat) (j : Nat) (hj : j < xs.length) : byts (xs.take (j + 1)) = byts (xs.take j) ++ b4 (xs.getD j 0) := by
  rw [List.take_succ_eq_append_getElem hj, byts_append]
  have : xs.getD j 0 = xs[j] := by simp [hj]
  rw [this]; simp [byts]
theorem u8v_b4 (x : Nat) (hx : x < 4294967296) : (b4 x).map u8v = [.int .u8 (x % 256), .int .u8 (x / 256 % 256), .int .u8 (x / 65536 % 256), .int .u8 (x / 16777216)] := by
  simp only [b4, u8v, List.map_cons, List.map_nil, UInt8.toNat_ofNat', Nat.reducePow]
  have : x / 16777216 % 256 = x / 16777216 := by omega
  rw [this]; simp
theorem strOfNums_byts (l : List Nat) : strOfNums ((byts l).map fun c => (c.toNat : Int)) = ⟨(byts l).toArray⟩ := by
  unfold strOfNums
  rw [List.map_map]
  have : ((fun n : Int => UInt8.ofNat n.toNat) ∘ fun c : UInt8 => (c.toNat : Int)) = id := by funext c; simp
  rw [this, List.map_id]
set_option maxRecDepth 100000 in
set_option maxHeartbeats 400000 in
theorem of_big (w : World) (b k0 cap k : Nat) (xs : List Nat) (hb : Blk w b xs) (hd : Hid (Digs xs)) (hk0 : k0 ≤ xs.length) (hc : k0 ≤ cap) (hs : cap ≤ 9223372036854775807) (hkk : Hid (k = (wd (val (xs.take k0))).length)) (hk2 : 2 < k) (hk3 : k ≤ k0) (hs3 : k ≤ 4398046511104) :
    Calls Tryz.prog 103 #[.slice (some ⟨b, 0, none⟩) k0 cap] w fun e w' => e = .returned (natV (val (xs.take k0))) ∧ Below w.heap.size w w' := by
  obtain ⟨i0, hi, hz0, hz1, hz2⟩ := info_parts info_u8
  go_enter Tryz.func103, Tryz.ntmps103
  go_wp2_with fail
  refine (cut_any _ b k0 cap xs (hb.alloc _) hd.out hk0 hc hs).mono ?_
  rintro e w' ⟨⟨k', hk', rfl, ht⟩, rfl⟩
  obtain rfl : k = k' := by
    have := congrArg List.length ht
    rw [List.length_take, ← hkk.out] at this
    omega
  have HT := Lib.hid ht
  clear ht
  go_wp2_with (at_make; refine wpList_make_own _ rfl _ _ 144 rfl (w.heap.size + 1) 5 i0 (.int .u8 0) 1 Tryz.underlying144 hi hz0 hz1 _ _ _ (4 * k) rfl rfl (by omega) ?b1 ?b2 ?b3 ?_)
  case b1 => rw [hz2]; omega
  case b2 => unfold maxLen; omega
  case b3 => simp
  intro w1 hown hgrow
  have hbel : Below (w.heap.size + 1) (w.alloc (.cells #[Value.int IntKind.u64 0, Value.string ⟨#[]⟩] 50)) w1 := (Below.refl _ _).grown hgrow (by simp) (by intro k h; cases h)
  have hb1 := (hb.alloc (.cells #[Value.int IntKind.u64 0, Value.string ⟨#[]⟩] 50)).grown hgrow (by simp)
  skip
  obtain ⟨B, hB⟩ : ∃ B, B = w.heap.size := ⟨_, rfl⟩
  rw [← hB] at hown hbel
  rw [← hB]
  have HB := Lib.hid hB; clear hB
  have hbl : b < B := by rw [HB.out]; exact hb.lt
  obtain ⟨W1, hW1⟩ : ∃ W1, W1 = w.alloc (.cells #[Value.int IntKind.u64 0, Value.string ⟨#[]⟩] 50) := ⟨_, rfl⟩
  rw [← hW1] at hbel
  have HW := Lib.hid hW1; clear hW1
  clear hgrow hb
  go_wp2
  go_loopw [6, 37] (fun v i wr => ∃ j : Nat, j ≤ k ∧ i = .int .i64 j ∧ v = .slice (some ⟨B + 1, 0, none⟩) (4 * j) (4 * k) ∧ wr.ownsRow (B + 1) 5 1 (.slice (some ⟨B + 1, 0, none⟩) (4 * j) (4 * k)) (4 * j) ((byts (xs.take j)).map u8v) ∧ Blk wr b xs ∧ Below (B + 1) W1 wr) (fun _ i _ => k - (intOf i).toNat)
  case atStart => exact ⟨0, Nat.zero_le _, rfl, rfl, by simpa [byts] using hown, hb1, hbel⟩
  case round =>
    obtain ⟨j, hj, rfl, rfl, hown, hblk, hbel⟩ := hrel
    by_cases hlt : j < k
    · have hcell := hblk.cell (i := j) (by omega)
      obtain ⟨x, hx⟩ : ∃ x, x = xs.getD j 0 := ⟨_, rfl⟩
      rw [← hx] at hcell
      have HX := Lib.hid hx
      have hxl : x < 4294967296 := by rw [hx]; exact hd.out.getD j
      clear hx
      go_wp2_with (at_builtin; refine wpList_append_fits _ rfl (.tmp 41) (.tmp 53) 144 rfl (B + 1) 5 i0 1 Tryz.underlying144 hi hz1 (B + 1) (4 * j) (4 * k) _ rfl (hown.alloc _) ⟨wr.heap.size, 0, none⟩ 4 4 [.int .u8 (x % 256), .int .u8 (x / 256 % 256), .int .u8 (x / 65536 % 256), .int .u8 (x / 16777216)] rfl rfl ?c1 ?c2 ?c3 ?_)
      case c1 =>
        intro q u hq
        match q, hq with
        | 0, hq => simp at hq; subst hq; simp [Addr.add]
        | 1, hq => simp at hq; subst hq; simp [Addr.add]
        | 2, hq => simp at hq; subst hq; simp [Addr.add]
        | 3, hq => simp at hq; subst hq; simp [Addr.add]
      case c2 => intro u hu; simp at hu; rcases hu with rfl | rfl | rfl | rfl <;> rfl
      case c3 => omega
      intro w2 hown2 hgrow2
      have hbelN : Below (B + 1) W1 w2 := (hbel.alloc (by have := (hown.lt (B + 1) rfl).2; omega) _).grown hgrow2 (by have := (hown.lt (B + 1) rfl).2; simp; omega) (by intro k h; simp at h; omega)
      have hblkN : Blk w2 b xs := (hblk.alloc _).grown hgrow2 (by simp; omega)
      clear hown hblk hbel hgrow2
      go_wp2
      go_roundw
      case rel =>
        refine ⟨j + 1, by omega, by go_num, rfl, ?_, hblkN, hbelN⟩
        have e : (byts (xs.take (j + 1))).map u8v = (byts (xs.take j)).map u8v ++ [.int .u8 (x % 256), .int .u8 (x / 256 % 256), .int .u8 (x / 65536 % 256), .int .u8 (x / 16777216)] := by
          rw [byts_take_succ xs j (by omega), List.map_append, ← HX.out, u8v_b4 x hxl]
        rw [e]; exact hown2
      case measure => simp [intOf]; omega
    · have hjk : j = k := by omega
      have hbs : strOfNums ((byts (xs.take j)).map fun c => (c.toNat : Int)) = bg (val (xs.take k0)) := by
        rw [hjk, HT.out, strOfNums_byts, bg_big]
        intro hlt
        have := wd_length (n := val (xs.take k0)) (k := 2) (by omega)
        rw [← hkk.out] at this; omega
      have hconv := run_convert_bytes_arg (P := Tryz.prog) wr 144 5 Tryz.underlying144 Tryz.underlying5 (B + 1) 0 (4 * j) (4 * k) ((byts (xs.take j)).map fun c => (c.toNat : Int))
        (by rw [List.length_map, byts_length, List.length_take]; omega)
        (fun q hq => by
          rw [hown.cellAt (0 + q) (by omega), Nat.zero_add]
          have hq2 : q < (byts (xs.take j)).length := by rw [byts_length, List.length_take]; omega
          simp [u8v, hq2]) 9 Tryz.underlying9
      rw [hbs] at hconv
      have hc' := In.cell ⟨hbel, by have := hbel.size; have := (hown.lt (B + 1) rfl).2; omega⟩
      have hf' := In.frozen ⟨hbel, by have := hbel.size; have := (hown.lt (B + 1) rfl).2; omega⟩
      have h1 : W1.cell? ⟨B, 0, none⟩ = some (.int .u64 0) := by rw [HW.out, HB.out]; simp [go_sem]
      have h2 : W1.cell? ⟨B, 1, none⟩ = some (.string ⟨#[]⟩) := by rw [HW.out, HB.out]; simp [go_sem]
      have h3 : W1.frozen? ⟨B, 0, none⟩ = false := by rw [HW.out, HB.out]; simp [go_sem]
      have h4 : W1.frozen? ⟨B, 1, none⟩ = false := by rw [HW.out, HB.out]; simp [go_sem]
      have HJ := Lib.hid hjk
      have HBS := Lib.hid hbs
      clear hjk hbs
      have hlo : lo (val (xs.take k0)) = 0 := lo_big (by
        intro hlt
        have := wd_length (n := val (xs.take k0)) (k := 2) (by omega)
        rw [← hkk.out] at this; omega)
      have hbelw : Below w.heap.size w wr := ((Below.refl _ w).alloc (Nat.le_refl _) _).trans (HW.out ▸ hbel.mono (by rw [HB.out]; omega))
      have hfin := (hbelw.setCell (p := ⟨B, 0, none⟩) (by rw [HB.out]; exact Nat.le_refl _) (.int .u64 0)).setCell (p := ⟨B, 1, none⟩) (by rw [HB.out]; exact Nat.le_refl _) (.string (bg (val (xs.take k0))))
      have HF := Lib.hid hfin
      have HL := Lib.hid hlo
      clear hbelw hfin hlo
      go_wp2_with fail
      exact bodyPost_ret (v := .agg #[.int .u64 0, .string (bg (val (xs.take k0)))]) (by simp [results, Tryz.results103, go_sem, hc', h1, h2]) rfl ⟨by rw [natV, HL.out], HF.out⟩
set_option maxRecDepth 100000 in
set_option maxHeartbeats 400000 in
theorem of_small (w : World) (b k0 cap k : Nat) (xs : List Nat) (hb : Blk w b xs) (hd : Hid (Digs xs)) (hk0 : k0 ≤ xs.length) (hc : k0 ≤ cap) (hs : cap ≤ 9223372036854775807) (hkk : Hid (k = (wd (val (xs.take k0))).length)) (hk2 : k ≤ 2) (hk3 : k ≤ k0) :
    Calls Tryz.prog 103 #[.slice (some ⟨b, 0, none⟩) k0 cap] w fun e w' => e = .returned (natV (val (xs.take k0))) ∧ Below w.heap.size w w' := by
  go_enter Tryz.func103, Tryz.ntmps103
  go_wp2_with fail
  refine (cut_any _ b k0 cap xs (hb.alloc _) hd.out hk0 hc hs).mono ?_
  rintro e w' ⟨⟨k', hk', rfl, ht⟩, rfl⟩
  obtain rfl : k = k' := by
    have := congrArg List.length ht
    rw [List.length_take, ← hkk.out] at this
    omega
  have HT := Lib.hid ht
  clear ht
  have hb1 := hb.alloc (.cells #[Value.int IntKind.u64 0, Value.string ⟨#[]⟩] 50)
  have hk2' : (k : Int) ≤ 2 := by omega
  go_wp2_with fail
  go_loop [3, 16] (fun v i => ∃ j : Nat, j ≤ k ∧ i = .int .i64 j ∧ v = .int .u64 (val (xs.take j))) (fun _ i => k - (intOf i).toNat)
  case atStart => exact ⟨0, Nat.zero_le _, rfl, rfl⟩
  case round =>
    obtain ⟨j, hj, rfl, rfl⟩ := hrel
    obtain ⟨v, hv⟩ : ∃ v, v = val (xs.take j) := ⟨_, rfl⟩
    rw [← hv]
    have HV := Lib.hid hv
    clear hv
    by_cases hlt : j < k
    · have hcell := hb1.cell (i := j) (by omega)
      obtain ⟨x, hx⟩ : ∃ x, x = xs.getD j 0 := ⟨_, rfl⟩
      rw [← hx] at hcell
      have HX := Lib.hid hx
      have hxl : x < 4294967296 := by rw [hx]; exact hd.out.getD j
      clear hx
      have hvl : v < 4294967296 ^ j := by
        rw [HV.out]
        have := val_lt (hd.out.take j)
        rwa [List.length_take, Nat.min_eq_left (by omega)] at this
      have hst := acc_step v x j (by omega) hxl hvl
      have hvs : val (xs.take (j + 1)) = v + x * 4294967296 ^ j := by
        rw [List.take_succ_eq_append_getElem (by omega), val_snoc, List.length_take, Nat.min_eq_left (by omega), ← HV.out, HX.out, Nat.mul_comm]
        simp [show j < xs.length by omega]
      have HS := Lib.hid hst
      have HVS := Lib.hid hvs
      clear hst hvs hvl
      go_wp2
      exact ⟨⟨j + 1, by omega, by go_num, by rw [HS.out, HVS.out]⟩, by simp [intOf]; omega⟩
    · have hjk : j = k := by omega
      have HJ := Lib.hid hjk
      have hjk1 : k ≤ j := by omega
      clear hjk
      have hvn : v = val (xs.take k0) := by rw [HV.out, HJ.out, HT.out, wd_val]
      have hvl : v < 18446744073709551616 := by
        have := val_lt (wd_digs (val (xs.take k0)))
        rw [wd_val, ← hkk.out, ← hvn] at this
        have h2 : 4294967296 ^ k ≤ 4294967296 ^ 2 := Nat.pow_le_pow_right (by decide) hk2
        have h3 : (4294967296 : Nat) ^ 2 = 18446744073709551616 := by decide
        omega
      have hlo := lo_small hvl
      have hbg : bg v = ⟨#[]⟩ := bg_small hvl
      have HN := Lib.hid hvn
      have HL := Lib.hid hlo
      have HG := Lib.hid hbg
      clear hvn hlo hbg
      go_wp2
      exact bodyPost_ret (v := .agg #[.int .u64 v, .string ⟨#[]⟩]) (by simp [results, Tryz.results103, go_sem]) rfl ⟨by rw [← HN.out, natV, HL.out, HG.out], by (refine In.bel ?_; (repeat (first | (refine In.setCell ?_ (by first | omega | (simp; done) | (simp; omega)) _) | (refine In.alloc ?_ _) | (refine In.drew ?_))); (first | exact In.self _ | (refine In.out h ?_ (by first | omega | (simp; done) | (simp; omega)); (repeat (first | (refine In.setCell ?_ (by first | omega | (simp; done) | (simp; omega)) _) | (refine In.alloc ?_ _) | (refine In.drew ?_))); exact In.self _)))⟩
/-- nats.of: the number with the given words. -/
theorem of_any (w : World) (b k0 cap : Nat) (xs : List Nat) (hb : Blk w b xs) (hd : Digs xs) (hk0 : k0 ≤ xs.length) (hc : k0 ≤ cap) (hs : cap ≤ 9223372036854775807) (hs3 : k0 ≤ 4398046511104) :
    Calls Tryz.prog 103 #[.slice (some ⟨b, 0, none⟩) k0 cap] w fun e w' => e = .returned (natV (val (xs.take k0))) ∧ Below w.heap.size w w' := by
  have hlen : (wd (val (xs.take k0))).length ≤ k0 := by
    have := val_lt (hd.take k0)
    rw [List.length_take, Nat.min_eq_left hk0] at this
    exact wd_length this
  by_cases h : (wd (val (xs.take k0))).length ≤ 2
  · exact of_small w b k0 cap _ xs hb hd hk0 hc hs rfl h hlen
  · exact of_big w b k0 cap _ xs hb hd hk0 hc hs rfl (by omega) hlen (by omega)
end Gus
