import Derived.Test.YtakblfhmllgepaaGreatDoorNatA
import Derived.Lib.Hide
import Derived.Laws.BitsAllLaws
namespace Gus
open Go Go.RowKit Go.Proofs

theorem ret_eq {a b : Value} (h : a = b) : Ending.returned a = Ending.returned b := by rw [h]
def CutP (xs : List Nat) (k0 b cap : Nat) (e : Ending) : Prop := ∃ k, k ≤ k0 ∧ e = .returned (.slice (some ⟨b, 0, none⟩) k cap) ∧ xs.take k = wd (val (xs.take k0))
theorem cut_end {xs : List Nat} (hd : Digs xs) {k k0 : Nat} (hk : k ≤ k0) (hk0 : k0 ≤ xs.length) (hz : ∀ i, k ≤ i → i < k0 → xs.getD i 0 = 0) (hl : k = 0 ∨ xs.getD (k - 1) 0 ≠ 0) :
    xs.take k = wd (val (xs.take k0)) := by
  refine eq_wd (hd.take k) (nrm_take (by omega) hl) ?_
  have := val_take_of_zero (xs.take k0) k (fun i h1 h2 => by
    have h3 : i < k0 := by rw [List.length_take] at h2; omega
    have := hz i h1 h3
    simpa [List.getElem?_take, h3] using this)
  rwa [List.take_take, Nat.min_eq_left hk] at this
set_option maxHeartbeats 400000 in
theorem cut_any (w : World) (b k0 cap : Nat) (xs : List Nat) (hb : Blk w b xs) (hd : Digs xs) (hk0 : k0 ≤ xs.length) (hc : k0 ≤ cap) (hs : cap ≤ 9223372036854775807) :
    Calls Tryz.prog 119 #[.slice (some ⟨b, 0, none⟩) k0 cap] w fun e w' => CutP xs k0 b cap e ∧ w = w' := by
  go_enter Tryz.func119, Tryz.ntmps119
  go_wp2
  go_loop [0] (fun v => ∃ k : Nat, k ≤ k0 ∧ v = .slice (some ⟨b, 0, none⟩) k cap ∧ ∀ i, k ≤ i → i < k0 → xs.getD i 0 = 0) (fun v => match v with | .slice _ n _ => n | _ => 0)
  case atStart => exact ⟨k0, Nat.le_refl _, rfl, fun i h1 h2 => by omega⟩
  case round =>
    obtain ⟨k, hk, rfl, hz⟩ := hrel
    have HZ : Hid (∀ i, k ≤ i → i < k0 → xs.getD i 0 = 0) := hz
    clear hz
    by_cases h0 : k = 0
    · subst h0
      go_wp2
      go_ret
      exact ⟨⟨0, hk, rfl, cut_end hd hk hk0 HZ.out (.inl rfl)⟩, rfl⟩
    · have hk1 : 0 < k := by omega
      have hcell := hb.cell (i := k - 1) (by omega)
      clear h0
      by_cases hv : xs.getD (k - 1) 0 = 0
      · rw [hv] at hcell
        have HV : Hid (xs.getD (k - 1) 0 = 0) := hv
        clear hv
        go_wp2
        refine ⟨⟨k - 1, by omega, rfl, fun i h1 h2 => ?_⟩, by show k - 1 < k; omega⟩
        by_cases hi : i = k - 1
        · rw [hi]; exact HV.out
        · exact HZ.out i (by omega) h2
      · have HV : Hid (xs.getD (k - 1) 0 ≠ 0) := hv
        obtain ⟨x, hx⟩ : ∃ x, x = xs.getD (k - 1) 0 := ⟨_, rfl⟩
        rw [← hx] at hcell
        have hpos : 0 < x := by omega
        clear hx hv
        go_wp2
        go_ret
        exact ⟨⟨k, hk, rfl, cut_end hd hk hk0 HZ.out (.inr HV.out)⟩, rfl⟩

/-! words -/
theorem or_join_u32 (a b m : Nat) (ha : a < 2 ^ m) (hb : b % 2 ^ m = 0) (h1 : a < 4294967296) (h2 : b < 4294967296) : bits .or .u32 (a : Int) (b : Int) = ((a + b : Nat) : Int) := by
  rw [u32_or_nat a b h1 h2, Nat.or_comm, nat_join m b a hb ha, Nat.add_comm]
theorem or_join_u64 (a b m : Nat) (ha : a < 2 ^ m) (hb : b % 2 ^ m = 0) (h1 : a < 18446744073709551616) (h2 : b < 18446744073709551616) : bits .or .u64 (a : Int) (b : Int) = ((a + b : Nat) : Int) := by
  rw [u64_or_nat a b h1 h2, Nat.or_comm, nat_join m b a hb ha, Nat.add_comm]
theorem byte_step (d k : Nat) (hd : d < 4294967296) (hk : k < 4) (c : UInt8) (hc : c = UInt8.ofNat (d / 256 ^ k)) :
    bits .or .u32 ((d % 256 ^ k : Nat) : Int) ((c.toNat : Int) % 4294967296 * 2 ^ (8 * k) % 4294967296) = ((d % 256 ^ (k + 1) : Nat) : Int) := by
  have hc' : c.toNat = d / 256 ^ k % 256 := by rw [hc, UInt8.toNat_ofNat']
  clear hc
  generalize c.toNat = y at *
  have hp : ∀ m : Nat, ((2 : Int) ^ m) = ((2 ^ m : Nat) : Int) := fun m => by simp
  rw [hp]
  have hk' : k = 0 ∨ k = 1 ∨ k = 2 ∨ k = 3 := by omega
  rcases hk' with rfl | rfl | rfl | rfl
  · have e : ((y : Int) % 4294967296 * ((2 ^ (8 * 0) : Nat) : Int) % 4294967296) = ((y : Nat) : Int) := by simp only [Nat.reduceMul, Nat.reducePow] at *; omega
    rw [e, or_join_u32 _ _ 0 (by simp only [Nat.reducePow]; omega) (by simp only [Nat.reducePow]; omega) (by simp only [Nat.reducePow]; omega) (by omega)]
    simp only [Nat.reduceAdd, Nat.reducePow] at *; omega
  · have e : ((y : Int) % 4294967296 * ((2 ^ (8 * 1) : Nat) : Int) % 4294967296) = ((y * 256 : Nat) : Int) := by simp only [Nat.reduceMul, Nat.reducePow] at *; omega
    rw [e, or_join_u32 _ _ 8 (by simp only [Nat.reducePow]; omega) (by simp only [Nat.reducePow]; omega) (by simp only [Nat.reducePow]; omega) (by omega)]
    simp only [Nat.reduceAdd, Nat.reducePow] at *; omega
  · have e : ((y : Int) % 4294967296 * ((2 ^ (8 * 2) : Nat) : Int) % 4294967296) = ((y * 65536 : Nat) : Int) := by simp only [Nat.reduceMul, Nat.reducePow] at *; omega
    rw [e, or_join_u32 _ _ 16 (by simp only [Nat.reducePow]; omega) (by simp only [Nat.reducePow]; omega) (by simp only [Nat.reducePow]; omega) (by omega)]
    simp only [Nat.reduceAdd, Nat.reducePow] at *; omega
  · have e : ((y : Int) % 4294967296 * ((2 ^ (8 * 3) : Nat) : Int) % 4294967296) = ((y * 16777216 : Nat) : Int) := by simp only [Nat.reduceMul, Nat.reducePow] at *; omega
    rw [e, or_join_u32 _ _ 24 (by simp only [Nat.reducePow]; omega) (by simp only [Nat.reducePow]; omega) (by simp only [Nat.reducePow]; omega) (by omega)]
    simp only [Nat.reduceAdd, Nat.reducePow] at *; omega
theorem mid_get (l : List Nat) (i y m : Nat) (hi : i < l.length) : (l.take i ++ [y] ++ List.replicate m 0).getD i 0 = y := by
  have h1 : (l.take i).length = i := by simp; omega
  rw [List.append_assoc, List.getD_eq_getElem?_getD, List.getElem?_append_right (by omega), h1]; simp
theorem mid_set (l : List Nat) (i y z m : Nat) (hi : i < l.length) : (l.take i ++ [y] ++ List.replicate m 0).set i z = l.take i ++ [z] ++ List.replicate m 0 := by
  have h1 : (l.take i).length = i := by simp; omega
  rw [List.append_assoc, List.set_append_right _ _ (by omega), h1]; simp
theorem mid_len (l : List Nat) (i y m : Nat) (hi : i < l.length) : (l.take i ++ [y] ++ List.replicate m 0).length = i + 1 + m := by simp; omega
def WordsP (n : Nat) (w : World) (e : Ending) (w' : World) : Prop := ∃ b xs, e = .returned (.slice (some ⟨b, 0, none⟩) (wd n).length xs.length) ∧ Blk w' b xs ∧ xs.take (wd n).length = wd n ∧
  (wd n).length ≤ xs.length ∧ xs.length ≤ 1099511627776 ∧ Digs xs ∧ w.heap.size ≤ b ∧ Below w.heap.size w w'
set_option maxRecDepth 100000 in
set_option maxHeartbeats 400000 in
theorem words_small (n : Nat) (hn : n < 18446744073709551616) (w : World) :
    Calls Tryz.prog 104 #[.agg #[.int .u64 (n : Int), .string ⟨#[]⟩]] w fun e w' => WordsP n w e w' := by
  have hd : Digs [n % 4294967296, n / 4294967296] := .cons (by omega) (.cons (by omega) .nil)
  have hv : val ([n % 4294967296, n / 4294967296].take 2) = n := by simp [val]; omega
  have HD := Lib.hid hd
  have HV := Lib.hid hv
  clear hd hv
  go_enter Tryz.func104, Tryz.ntmps104
  go_wp2_with fail
  have hb := Blk.new (xs := [n % 4294967296, n / 4294967296]) (w.alloc (Obj.cells #[Value.int IntKind.u64 n, Value.string { data := #[] }] 50)) #[Value.int IntKind.u32 (n % 4294967296), Value.int IntKind.u32 (n / 4294967296)] (by simp [u32v])
  rw [World.size_alloc] at hb
  refine (cut_any _ _ 2 2 _ hb HD.out (by simp) (Nat.le_refl _) (by omega)).mono ?_
  rintro e w' ⟨⟨k, hk, rfl, ht⟩, rfl⟩
  rw [HV.out] at ht
  have hkl : k = (wd n).length := by rw [← ht]; simp; omega
  have HT := Lib.hid ht
  have HK := Lib.hid hkl
  have HB := Lib.hid hb
  clear ht hkl hb
  go_wp2
  go_ret
  refine ⟨w.heap.size + 1, [n % 4294967296, n / 4294967296], ?_, HB.out, ?_, ?_, by simp, HD.out, by omega, by (refine In.bel ?_; (repeat (first | (refine In.setCell ?_ (by first | omega | (simp; done) | (simp; omega)) _) | (refine In.alloc ?_ _) | (refine In.drew ?_))); (first | exact In.self _ | (refine In.out h ?_ (by first | omega | (simp; done) | (simp; omega)); (repeat (first | (refine In.setCell ?_ (by first | omega | (simp; done) | (simp; omega)) _) | (refine In.alloc ?_ _) | (refine In.drew ?_))); exact In.self _)))⟩
  · rw [← HK.out]; rfl
  · rw [← HK.out]; exact HT.out
  · rw [← HK.out]; exact hk
set_option maxRecDepth 100000 in
set_option maxHeartbeats 400000 in
theorem words_big (n : Nat) (L : Nat) (l : List Nat) (hL : Hid (l.length = L)) (hlw : Hid (l = wd n)) (hl : (bg n).toList.isEmpty = false) (hbg : Hid (bg n = ⟨(byts l).toArray⟩)) (hsz : (bg n).size = 4 * L) (hsz2 : L ≤ 1099511627776)  (w : World)  :
    Calls Tryz.prog 104 #[.agg #[.int .u64 0, .string (bg n)]] w fun e w' => WordsP n w e w' := by
  have hmk := mk_u32 L (by omega)
  go_enter Tryz.func104, Tryz.ntmps104
  go_wp2_with fail
  clear hmk
  obtain ⟨B, hB⟩ : ∃ B, B = w.heap.size := ⟨_, rfl⟩
  rw [← hB]
  have HBw := Lib.hid hB; clear hB
  go_loopw [25] (fun i wr => ∃ k : Nat, k ≤ L ∧ i = .int .i64 k ∧ Blk wr (B + 1) (l.take k ++ List.replicate (L - k) 0) ∧ wr.cell? ⟨B, 1, none⟩ = some (.string (bg n)) ∧ Below B w wr) (fun i _ => L - (intOf i).toNat)
  case atStart =>
    refine ⟨0, Nat.zero_le _, rfl, ?_, ?_, ?_⟩
    · have := Blk.made (w.alloc (.cells #[Value.int IntKind.u64 0, Value.string (bg n)] 50)) L
      rw [World.size_alloc, ← HBw.out] at this
      simpa using this
    · rw [HBw.out]; simp [go_sem]
    · rw [HBw.out]; (refine In.bel ?_; (repeat (first | (refine In.setCell ?_ (by first | omega | (simp; done) | (simp; omega)) _) | (refine In.alloc ?_ _) | (refine In.drew ?_))); (first | exact In.self _ | (refine In.out h ?_ (by first | omega | (simp; done) | (simp; omega)); (repeat (first | (refine In.setCell ?_ (by first | omega | (simp; done) | (simp; omega)) _) | (refine In.alloc ?_ _) | (refine In.drew ?_))); exact In.self _)))
  case round =>
    obtain ⟨i, hi, rfl, hblk, hbox, hbel⟩ := hrel
    by_cases hlt : i < L
    · have HBI := Lib.hid hblk
      clear hblk
      go_wp2
      have hbel0 := Lib.hid hbel
      clear hbel
      obtain ⟨wo, hwo⟩ : ∃ wo : World, wo = wr := ⟨_, rfl⟩
      subst hwo
      go_loopw [28] (fun j wr => ∃ k : Nat, k ≤ 4 ∧ j = .int .i64 k ∧ Blk wr (B + 1) (l.take i ++ [l.getD i 0 % 256 ^ k] ++ List.replicate (L - i - 1) 0) ∧ wr.cell? ⟨B, 1, none⟩ = some (.string (bg n)) ∧ Below B w wr) (fun j _ => 4 - (intOf j).toNat)
      case atStart =>
        refine ⟨0, by omega, rfl, ?_, hbox, hbel0.out⟩
        have := HBI.out
        rw [show L - i = (L - i - 1) + 1 by omega, List.replicate_succ] at this
        simpa [Nat.mod_one] using this
      case round =>
        obtain ⟨k, hk, rfl, hblk, hbox, hbel⟩ := hrel
        have hil : i < l.length := by rw [hL.out]; exact hlt
        by_cases hlk : k < 4
        · have hcell := hblk.cell (i := i) (by rw [mid_len _ _ _ _ hil]; omega)
          rw [mid_get _ _ _ _ hil] at hcell
          have hfr := hblk.frozen i
          obtain ⟨x, hx⟩ : ∃ x, x = l.getD i 0 % 256 ^ k := ⟨_, rfl⟩
          rw [← hx] at hcell
          have HX := Lib.hid hx
          have HB := Lib.hid hblk
          have HBL := Lib.hid hbel
          have HIL := Lib.hid hil
          clear hx hblk hbel hil
          have hsk : 4 * i + k < (bg n).size := by rw [hsz]; omega
          have hsk2 : (4 * (i : Int) + k) < ((bg n).size : Int) := by omega
          have hge : (0 : Int) ≤ 4 * i + k := by omega
          have hix : (4 * (i : Int) + k) < 4 * L := by omega
          have hw3 : IntKind.i64.wrap (8 * (k : Int)) = 8 * k := IntWalk.i64_in _ (by omega)
          have hw1 : IntKind.i64.wrap (4 * (i : Int)) = 4 * i := IntWalk.i64_in _ (by omega)
          have hw2 : IntKind.i64.wrap (4 * (i : Int) + k) = 4 * i + k := IntWalk.i64_in _ (by omega)
          have hw4 : (4 * (i : Int) + k).toNat = 4 * i + k := by omega
          go_wp2
          (refine wp_region_tail (fun w' => w' = wr.drew) 17 (by kernel_rfl) (by kernel_rfl) rfl ?_; simp only [List.take_succ_cons, List.take_zero, List.drop_succ_cons, List.drop_zero]; (repeat (first | (apply wpQuiet_run; (focus rfl); (focus (rintro _ rfl; go_simp; exact rfl)); (try simp only [Act.put]); (try simp only [List.setIfInBounds_toArray]); (try simp only [List.set])) | (apply wpQuiet_skip; (focus rfl); (try simp only [Act.put]); (try simp only [List.setIfInBounds_toArray]); (try simp only [List.set])))); refine wpQuiet_nil ?_; rintro _ rfl)
          clear hw1 hw2 hw3
          go_wp2
          go_roundw
          case rel =>
            have hbyte : (bg n)[4 * i + k] = UInt8.ofNat (l.getD i 0 / 256 ^ k) := by
              have h1 : ∀ (s : ByteArray) (hs : s = ⟨(byts l).toArray⟩) (hk : 4 * i + k < s.size), s[4 * i + k] = UInt8.ofNat (l.getD i 0 / 256 ^ k) := by
                rintro s rfl hk
                have := byts_get l i HIL.out k hlk
                have e : l.getD i 0 = l[i]'HIL.out := by simp [HIL.out]
                rw [e, ← this]; rfl
              exact h1 _ hbg.out hsk
            have hdl : l.getD i 0 < 4294967296 := by rw [hlw.out]; exact (wd_digs n).getD i
            have hst := byte_step (l.getD i 0) k hdl hlk _ hbyte
            rw [← HX.out] at hst
            refine ⟨k + 1, by omega, by go_num, ?_, ?_, ?_⟩
            · rw [hst]
              have := HB.out.set i (l.getD i 0 % 256 ^ (k + 1))
              rw [mid_set _ _ _ _ _ HIL.out] at this
              exact this
            · exact (World.cell?_setCell_other _ _ _ _ (by simp)).trans hbox
            · exact ((HBL.out).setCell (by simp) _).drew
          case measure => simp [intOf]; omega
        · have hk4 : k = 4 := by omega
          have HB := Lib.hid hblk
          have HBL := Lib.hid hbel
          have HIL := Lib.hid hil
          have HK := Lib.hid hk4
          clear hblk hbel hil hk4
          go_wp2
          go_roundw
          case rel =>
            refine ⟨i + 1, by omega, by go_num, ?_, hbox, HBL.out⟩
            have := HB.out
            rw [HK.out] at this
            have hdl : l.getD i 0 < 4294967296 := by rw [hlw.out]; exact (wd_digs n).getD i
            rw [Nat.mod_eq_of_lt (by omega)] at this
            rw [List.take_succ_eq_append_getElem HIL.out]
            have e : l.getD i 0 = l[i]'HIL.out := by simp [HIL.out]
            rw [e] at this
            rw [show L - (i + 1) = L - i - 1 by omega]
            exact this
          case measure => simp [intOf]; omega
    · have hiL : i = L := by omega
      have HB := Lib.hid hblk
      have HI := Lib.hid hiL
      clear hblk hiL
      go_wp2
      go_ret
      have h1 := HB.out
      rw [HI.out] at h1
      have h2 : l.take L ++ List.replicate (L - L) 0 = l := by rw [← hL.out]; simp
      rw [h2] at h1
      refine ⟨B + 1, l, ?_, h1, ?_, ?_, by rw [hL.out]; exact hsz2, by rw [hlw.out]; exact wd_digs n, by rw [HBw.out]; omega, by rw [← HBw.out]; exact hbel⟩
      · rw [← hlw.out, hL.out]; rfl
      · rw [← hlw.out]; simp
      · rw [← hlw.out]; exact Nat.le_refl _
theorem words_any (n : Nat) (hn : (wd n).length ≤ 1099511627776) (w : World) :
    Calls Tryz.prog 104 #[natV n] w fun e w' => WordsP n w e w' := by
  by_cases h : n < 18446744073709551616
  · have := words_small n h w
    rw [natV, lo_small h, bg_small h]; exact this
  · have hs : (bg n).size = 4 * (wd n).length := by rw [bg_size, if_neg h]
    have := words_big n _ _ rfl rfl (by
      have : ¬ (bg n).toList = [] := fun e => h ((bg_small_iff n).1 e)
      cases he : (bg n).toList with
      | nil => exact absurd he this
      | cons _ _ => rfl) (bg_big h) hs hn w
    rw [natV, lo_big h]; exact this
end Gus
