import Derived.Test.YtjbclomfocnplaaGreatDoorNatI
/- Subtraction of a multiple. -/
namespace Gus
open Go Go.RowKit Go.Proofs
theorem mid3_get (ls xs cs : List Nat) (k : Nat) (h : k < xs.length) {o : Nat} (ho : o = ls.length) : (ls ++ xs ++ cs).getD (o + k) 0 = xs.getD k 0 := by
  subst ho
  rw [List.getD_eq_getElem?_getD, List.getD_eq_getElem?_getD, List.append_assoc, List.getElem?_append_right (by omega), Nat.add_sub_cancel_left, List.getElem?_append_left h]
theorem mid3_set (ls xs cs : List Nat) (k z : Nat) (h : k < xs.length) {o : Nat} (ho : o = ls.length) : (ls ++ xs ++ cs).set (o + k) z = ls ++ xs.set k z ++ cs := by
  subst ho
  rw [List.append_assoc, List.set_append_right _ _ (by omega), Nat.add_sub_cancel_left, List.set_append_left _ _ h, List.append_assoc]
theorem row_get (zs ms : List Nat) {k : Nat} (h : zs.length = k) : (zs ++ ms.drop k).getD k 0 = ms.getD k 0 := by
  rw [List.getD_eq_getElem?_getD, List.getElem?_append_right (by omega), h, Nat.sub_self, List.getElem?_drop, Nat.add_zero, List.getD_eq_getElem?_getD]
theorem row_set (zs ms : List Nat) {k : Nat} (z : Nat) (h : zs.length = k) (hk : k < ms.length) : (zs ++ ms.drop k).set k z = (zs ++ [z]) ++ ms.drop (k + 1) := by
  rw [List.set_append_right _ _ (by omega), h, Nat.sub_self, List.drop_eq_getElem_cons hk, List.set_cons_zero, List.append_assoc]; rfl
theorem less_step {zs d V M t c l w z m s l' : Nat} (h : zs + d * V = M + t * (c + l)) (hs : s = c + d * w) (hz : z + s % 4294967296 + l = m + 4294967296 * l') : zs + t * z + d * (V + t * w) = M + t * m + t * 4294967296 * (s / 4294967296 + l') := by
  have := Nat.div_add_mod s 4294967296
  generalize s / 4294967296 = q at *
  generalize s % 4294967296 = r at *
  have e : t * (z + r + l) = t * (m + 4294967296 * l') := by rw [hz]
  have e2 : t * (4294967296 * q + r) = t * (c + d * w) := by rw [this, hs]
  grind
set_option maxRecDepth 100000 in
set_option maxHeartbeats 1000000 in
/-- nats.less -/
theorem less_any (w : World) (bu off n cu bv cv d : Nat) (ls ms cs vs : List Nat) (hu : Blk w bu (ls ++ ms ++ cs)) (hv : Blk w bv vs) (hoff : off = ls.length) (hm : ms.length = n + 1) (hn : n ≤ vs.length) (hs : n ≤ 1099511627776)
    (hdm : Digs ms) (hdv : Digs vs) (hd : d < 4294967296) (hne : bu ≠ bv) :
    Calls Tryz.prog 276 #[.slice (some ⟨bu, off, none⟩) ((n + 1 : Nat)) cu, .slice (some ⟨bv, 0, none⟩) n cv, .int .u64 (d : Nat)] w fun e w' => ∃ zs c, e = .returned (.bool (decide (0 < c))) ∧ Blk w' bu (ls ++ zs ++ cs) ∧ zs.length = n + 1 ∧ Digs zs ∧ c ≤ 1 ∧
      val zs + d * val (vs.take n) = val ms + 4294967296 ^ (n + 1) * c ∧ w.grownBy w' (some bu) := by
  have HOFF := Lib.hid hoff
  have HM := Lib.hid hm
  clear hoff hm
  go_enter Tryz.func276, Tryz.ntmps276
  go_wp2_with fail
  go_loopw [7, 8, 14] (fun v7 v8 v14 wr => ∃ k zs c l, k ≤ n ∧ v14 = .int .i64 (k : Nat) ∧ v7 = .int .u64 (c : Nat) ∧ v8 = .int .u32 (l : Nat) ∧ c < 4294967296 ∧ l ≤ 1 ∧ zs.length = k ∧ Digs zs ∧ Blk wr bu (ls ++ (zs ++ ms.drop k) ++ cs) ∧ Blk wr bv vs ∧ w.grownBy wr (some bu) ∧
    val zs + d * val (vs.take k) = val (ms.take k) + 4294967296 ^ k * (c + l)) (fun _ _ v14 _ => n - (intOf v14).toNat)
  case atStart => exact ⟨0, [], 0, 0, Nat.zero_le _, rfl, rfl, rfl, by decide, by decide, rfl, .nil, hu, hv, gr_refl _ _, by simp [val]⟩
  case round =>
    clear hu hv
    obtain ⟨k, zs, c, l, hk, rfl, rfl, rfl, hc, hl, hz, hdz, hbu, hbv, hgr, hval⟩ := hrel
    have HV := Lib.hid hval
    have HZ := Lib.hid hz
    clear hval hz
    obtain ⟨x, hx⟩ : ∃ x, x = ms.getD k 0 := ⟨_, rfl⟩
    have hxl : x < 4294967296 := by rw [hx]; exact hdm.getD k
    have hlen : (zs ++ ms.drop k).length = n + 1 := by rw [List.length_append, List.length_drop, HZ.out, HM.out]; omega
    have hcu := hbu.cell (i := off + k) (by rw [List.length_append, List.length_append, hlen, ← HOFF.out]; omega)
    rw [mid3_get _ _ _ _ (by rw [hlen]; omega) HOFF.out, row_get _ _ HZ.out, ← hx] at hcu
    have hfu := hbu.frozen (off + k)
    have hsetz : ∀ z, (ls ++ (zs ++ ms.drop k) ++ cs).set (off + k) z = ls ++ ((zs ++ [z]) ++ ms.drop (k + 1)) ++ cs := fun z => by
      rw [mid3_set _ _ _ _ _ (by rw [hlen]; omega) HOFF.out, row_set _ _ _ HZ.out (by rw [HM.out]; omega)]
    have HX := Lib.hid hx
    have HSZ := Lib.hid hsetz
    clear hx hlen hsetz
    by_cases hlt : k < n
    · obtain ⟨y, hy⟩ : ∃ y, y = vs.getD k 0 := ⟨_, rfl⟩
      have hyl : y < 4294967296 := by rw [hy]; exact hdv.getD k
      have hcv := hbv.cell (i := k) (by omega)
      rw [← hy] at hcv
      have hdy : d * y ≤ 18446744065119617025 := Nat.mul_le_mul (show d ≤ 4294967295 by omega) (show y ≤ 4294967295 by omega)
      obtain ⟨s, hs⟩ : ∃ s, s = c + d * y := ⟨_, rfl⟩
      have hsI : (s : Int) = (c : Int) + (d : Int) * y := by rw [hs]; push_cast; rfl
      have hdy0 : (0 : Int) ≤ (d : Int) * y := by
        have : ((d * y : Nat) : Int) = (d : Int) * y := by push_cast; rfl
        omega
      have hdy1 : (d : Int) * y ≤ 18446744065119617025 := by
        have : ((d * y : Nat) : Int) = (d : Int) * y := by push_cast; rfl
        omega
      have hsl : s < 18446744073709551616 := by omega
      obtain ⟨z, l', hz1, hz2, hl', hzl, hzv⟩ := bor_nat x (s % 4294967296) l hxl (Nat.mod_lt _ (by decide)) hl
      rw [show ((s % 4294967296 : Nat) : Int) = (s : Int) % 4294967296 by omega] at hz1 hz2
      have hst := less_step HV.out hs hzv
      rw [hy, ← val_take_succ, HX.out, ← val_take_succ, ← Nat.pow_succ] at hst
      have hst' : val (zs ++ [z]) + d * val (vs.take (k + 1)) = val (ms.take (k + 1)) + 4294967296 ^ (k + 1) * (s / 4294967296 + l') := by
        rw [val_snoc, HZ.out]; exact hst
      have HST := Lib.hid hst'
      have HSI := Lib.hid hsI
      have HZ1 := Lib.hid hz1
      have HZ2 := Lib.hid hz2
      have hset := hbu.set (off + k) z
      rw [HSZ.out] at hset
      have HSE := Lib.hid hset
      clear hst hst' hsI hz1 hz2 hzv hs hy hset
      go_upto_region 6 with fail
      go_wp2_with fail
      rw [← HSI.out]
      refine (sub32 _ _ _ (by omega) (by omega) (by omega) (by omega) (by omega) (by omega) _).mono ?_
      rintro e w' ⟨rfl, rfl⟩
      rw [HZ1.out, HZ2.out]
      have hs0 : (0 : Int) ≤ s := by omega
      clear hdy0 hdy1
      go_wp2_with fail
      refine ⟨⟨k + 1, zs ++ [z], s / 4294967296, l', hlt, by go_num, by go_num, rfl, by omega, hl', by rw [List.length_append, HZ.out]; rfl, hdz.append (.cons hzl .nil), HSE.out, hbv.other hne _, gr_set hgr _ _, HST.out⟩, by simp [intOf]; omega⟩
    · have hkn : k = n := by omega
      have hv := HV.out
      rw [hkn] at hv
      obtain ⟨z, l', hz1, hz2, hl', hzl, hzv⟩ := bor_nat x c l hxl hc hl
      have hst' : val (zs ++ [z]) + d * val (vs.take n) = val ms + 4294967296 ^ (n + 1) * l' := by
        have e : val ms = val (ms.take n) + 4294967296 ^ n * x := by
          have := val_take_succ ms n
          rw [List.take_of_length_le (by rw [HM.out]; omega)] at this
          rw [this, HX.out, hkn]
        rw [val_snoc, HZ.out, hkn, e, Nat.pow_succ]
        clear e
        generalize 4294967296 ^ n = t at *
        have e2 : t * (z + c + l) = t * (x + 4294967296 * l') := by rw [hzv]
        grind
      have hset := hbu.set (off + k) z
      rw [HSZ.out, List.drop_of_length_le (by rw [HM.out]; omega), List.append_nil, hkn] at hset
      rw [hkn] at hcu hfu
      have hcm : (c : Int) % 4294967296 = c := by omega
      have hlz : (zs ++ [z]).length = n + 1 := by rw [List.length_append, HZ.out, hkn]; rfl
      have HST := Lib.hid hst'
      have HSE := Lib.hid hset
      have HZ1 := Lib.hid hz1
      have HZ2 := Lib.hid hz2
      have HLZ := Lib.hid hlz
      clear hv hst' hset hz1 hz2 hzv hkn hlz
      go_upto_region 10 with fail
      go_wp2_with fail
      refine (sub32 _ _ _ (by omega) (by omega) (by omega) (by omega) (by omega) (by omega) _).mono ?_
      rintro e w' ⟨rfl, rfl⟩
      rw [HZ1.out, HZ2.out]
      go_wp2_with fail
      exact bodyPost_ret (v := .bool (decide (0 < l'))) (by simp [results, Tryz.results276, go_sem]) rfl ⟨zs ++ [z], l', rfl, HSE.out, HLZ.out, hdz.append (.cons hzl .nil), hl', HST.out, gr_set hgr _ _⟩
end Gus
