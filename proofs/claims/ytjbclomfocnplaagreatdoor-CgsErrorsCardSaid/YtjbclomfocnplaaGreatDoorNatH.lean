import Derived.Test.YtjbclomfocnplaaGreatDoorNatG
/- Division by one word; shifts. -/
namespace Gus
open Go Go.RowKit Go.Proofs
theorem val_drop_step (l : List Nat) (k : Nat) (h : k < l.length) : val (l.drop k) = l.getD k 0 + 4294967296 * val (l.drop (k + 1)) := by
  rw [List.drop_eq_getElem_cons h, val]; simp [h]
set_option maxRecDepth 100000 in
set_option maxHeartbeats 1000000 in
/-- nats.short -/
theorem short_any (w : World) (b K cap y : Nat) (xs : List Nat) (hb : Blk w b xs) (hd : Digs xs) (hK : K ≤ xs.length) (hs : K ≤ 1099511627776) (hy0 : 0 < y) (hy : y < 4294967296) :
    Calls Tryz.prog 225 #[.slice (some ⟨b, 0, none⟩) K cap, .int .u32 (y : Nat)] w fun e w' => ∃ qs r, e = .returned (.tuple #[.slice (some ⟨w.heap.size, 0, none⟩) K K, .int .u32 ((r : Nat) : Int)]) ∧ Blk w' w.heap.size qs ∧ qs.length = K ∧ Digs qs ∧ r < y ∧
      val (xs.take K) = val qs * y + r ∧ Below w.heap.size w w' := by
  have hmk := mk_u32 K (by omega)
  have hB := Blk.made w K
  have hB2 := hb.alloc (.cells (zrow K) 80)
  have hbel : Below w.heap.size w (w.alloc (.cells (zrow K) 80)) := (Below.refl _ w).alloc (Nat.le_refl _) _
  have hne : w.heap.size ≠ b := by have := hb.lt; omega
  go_enter Tryz.func225, Tryz.ntmps225
  go_upto_region 2 with fail
  generalize w.alloc (.cells (zrow K) 80) = w1 at *
  clear hmk
  go_wp2
  go_loopw [5, 6] (fun v5 v6 wr => ∃ k qs r, k ≤ K ∧ v6 = .int .i64 ((k : Nat) - 1) ∧ v5 = .int .u32 ((r : Nat) : Int) ∧ r < y ∧ qs.length = K - k ∧ Digs qs ∧ Blk wr w.heap.size (List.replicate k 0 ++ qs) ∧ Blk wr b xs ∧ Below w.heap.size w wr ∧ val ((xs.take K).drop k) = val qs * y + r) (fun _ v6 _ => (intOf v6 + 1).toNat)
  case atStart => exact ⟨K, [], 0, Nat.le_refl _, rfl, rfl, hy0, by simp, .nil, by simpa using hB, hB2, hbel, by rw [List.drop_of_length_le (by rw [List.length_take]; omega)]; simp [val]⟩
  case round =>
    obtain ⟨k, qs, r, hk, rfl, rfl, hr, hq, hdq, hbl, hbx, hbe, hv⟩ := hrel
    have HV := Lib.hid hv
    have HQ := Lib.hid hq
    clear hv hq hB hB2 hbel hb
    by_cases hk0 : 0 < k
    · obtain ⟨j, rfl⟩ : ∃ j, k = j + 1 := ⟨k - 1, by omega⟩
      clear hk0
      rw [show (((j + 1 : Nat)) : Int) - 1 = (j : Int) by omega]
      obtain ⟨x, hx⟩ : ∃ x, x = xs.getD j 0 := ⟨_, rfl⟩
      have hxl : x < 4294967296 := by rw [hx]; exact hd.getD j
      have hcx := hbx.cell (i := j) (by omega)
      rw [← hx] at hcx
      have hcq := hbl.cell (i := j) (by rw [List.length_append, List.length_replicate]; omega)
      have hfq := hbl.frozen j
      obtain ⟨q, hq⟩ : ∃ q, q = (r * 4294967296 + x) / y := ⟨_, rfl⟩
      obtain ⟨s, hs⟩ : ∃ s, s = (r * 4294967296 + x) % y := ⟨_, rfl⟩
      have hqs : y * q + s = r * 4294967296 + x := by rw [hq, hs]; exact Nat.div_add_mod _ _
      have hsl : s < y := by rw [hs]; exact Nat.mod_lt _ hy0
      have hql : q < 4294967296 := by rw [hq]; apply Nat.div_lt_of_lt_mul; have := Nat.mul_le_mul_right 4294967296 (show r + 1 ≤ y from hr); omega
      have hqI : ((r : Int) * 4294967296 + x) / y = (q : Int) := by rw [hq, Int.natCast_ediv, Int.natCast_add, Int.natCast_mul]; rfl
      have hsI : ((r : Int) * 4294967296 + x) % y = (s : Int) := by rw [hs, Int.natCast_emod, Int.natCast_add, Int.natCast_mul]; rfl
      have e : (List.replicate (j + 1) 0 ++ qs).set j q = List.replicate j 0 ++ (q :: qs) := by
        rw [List.replicate_succ', List.append_assoc, List.set_append_right _ _ (by rw [List.length_replicate]; exact Nat.le_refl _), List.length_replicate, Nat.sub_self]; rfl
      have hval : val ((xs.take K).drop j) = val (q :: qs) * y + s := by
        rw [val_drop_step _ _ (by rw [List.length_take]; omega), HV.out, getD_take (by omega), ← hx, val]
        grind
      have HE := Lib.hid e
      have HVL := Lib.hid hval
      have HX := Lib.hid hx
      have HQI := Lib.hid hqI
      have HSI := Lib.hid hsI
      have hxI : (x : Int) < 4294967296 := by omega
      clear hval hx hqI hsI hq hs hqs e
      go_wp2_with fail
      refine (div32 _ _ _ (by omega) (by omega) (by omega) (by omega) (by omega) _).mono ?_
      rintro e w' ⟨rfl, hb'⟩
      rw [HQI.out, HSI.out]
      have hcq' := keepCell hb' hcq
      have hfq' : w'.frozen? ⟨w.heap.size, j, none⟩ = false := (hbl.call hb').frozen j
      clear hcq hfq hcx
      go_wp2_with fail
      refine ⟨⟨j, q :: qs, s, by omega, rfl, rfl, hsl, by rw [List.length_cons, HQ.out]; omega, hdq.cons hql, ?_, (hbx.call hb').other hne _, (hbe.trans (hb'.mono hbe.size)).setCell (Nat.le_refl _) _, HVL.out⟩, by simp [intOf]⟩
      rw [← HE.out]
      exact (hbl.call hb').set j q
    · obtain rfl : k = 0 := by omega
      have hv := HV.out
      have hq := HQ.out
      rw [List.drop_zero] at hv
      rw [Nat.sub_zero] at hq
      rw [List.replicate_zero, List.nil_append] at hbl
      have HV := Lib.hid hv
      have HQ := Lib.hid hq
      clear hv hq
      go_wp2_with fail
      refine bodyPost_ret (v := .tuple #[.slice (some ⟨w.heap.size, 0, none⟩) K K, .int .u32 ((r : Nat) : Int)]) (by simp [results, Tryz.results225, go_sem]) rfl ⟨qs, r, rfl, hbl, HQ.out, hdq, hr, HV.out, hbe⟩
theorem shl_split (x s c : Nat) (hs : s < 32) (hc : c < 2 ^ s) : ((x * 2 ^ s) % 4294967296) ||| c = (x * 2 ^ s) % 4294967296 + c := by
  have e : (x * 2 ^ s) % 4294967296 = 2 ^ s * (x % 2 ^ (32 - s)) := by
    have h1 : (4294967296 : Nat) = 2 ^ s * 2 ^ (32 - s) := by rw [← Nat.pow_add, show s + (32 - s) = 32 by omega]
    rw [h1, Nat.mul_comm x, Nat.mul_mod_mul_left]
  rw [e]
  exact (Nat.two_pow_add_eq_or_of_lt hc _).symm
set_option maxRecDepth 100000 in
set_option maxHeartbeats 1000000 in
/-- nats.shifted -/
theorem shifted_any (w : World) (b K cap s : Nat) (xs : List Nat) (hb : Blk w b xs) (hd : Digs xs) (hK : K ≤ xs.length) (hs : K ≤ 1099511627776) (hs1 : s < 32) :
    Calls Tryz.prog 275 #[.slice (some ⟨b, 0, none⟩) K cap, .int .i64 (s : Nat)] w fun e w' => ∃ zs, e = .returned (.slice (some ⟨w.heap.size, 0, none⟩) ((K + 1 : Nat)) ((K + 1 : Nat))) ∧ Blk w' w.heap.size zs ∧ zs.length = K + 1 ∧ Digs zs ∧
      val zs = val (xs.take K) * 2 ^ s ∧ Below w.heap.size w w' := by
  have hmk := mk_u32 (K + 1) (by omega)
  rw [show (((K + 1 : Nat)) : Int) = (K : Int) + 1 by omega] at hmk
  have hB := Blk.made w (K + 1)
  have hB2 := hb.alloc (.cells (zrow (K + 1)) 80)
  have hbel : Below w.heap.size w (w.alloc (.cells (zrow (K + 1)) 80)) := (Below.refl _ w).alloc (Nat.le_refl _) _
  have hne : w.heap.size ≠ b := by have := hb.lt; omega
  go_enter Tryz.func275, Tryz.ntmps275
  go_upto_region 3 with fail
  generalize w.alloc (.cells (zrow (K + 1)) 80) = w1 at *
  clear hmk
  go_wp2
  go_loopw [6, 15] (fun v6 v15 wr => ∃ k zs c, k ≤ K ∧ v15 = .int .i64 (k : Nat) ∧ v6 = .int .u32 ((c : Nat) : Int) ∧ c < 2 ^ s ∧ zs.length = k ∧ Digs zs ∧ Blk wr w.heap.size (zs ++ List.replicate (K + 1 - k) 0) ∧ Blk wr b xs ∧ Below w.heap.size w wr ∧ val zs + 4294967296 ^ k * c = val (xs.take k) * 2 ^ s) (fun _ v15 _ => K - (intOf v15).toNat)
  case atStart => exact ⟨0, [], 0, Nat.zero_le _, rfl, rfl, Nat.two_pow_pos _, rfl, .nil, by simpa using hB, hB2, hbel, by simp [val]⟩
  case round =>
    obtain ⟨k, zs, c, hk, rfl, rfl, hc, hz, hdz, hbl, hbx, hbe, hv⟩ := hrel
    have HV := Lib.hid hv
    have HZ := Lib.hid hz
    clear hv hz hB hB2 hbel hb
    have hcB : c < 4294967296 := Nat.lt_of_lt_of_le hc (by have : 2 ^ s ≤ 2 ^ 32 := Nat.pow_le_pow_right (by decide) (by omega); simpa using this)
    have hcq := hbl.cell (i := k) (by rw [List.length_append, List.length_replicate, HZ.out]; omega)
    have hfq := hbl.frozen k
    by_cases hlt : k < K
    · obtain ⟨x, hx⟩ : ∃ x, x = xs.getD k 0 := ⟨_, rfl⟩
      have hxl : x < 4294967296 := by rw [hx]; exact hd.getD k
      have hcx := hbx.cell (i := k) (by omega)
      rw [← hx] at hcx
      obtain ⟨P, hP⟩ : ∃ P, P = x * 2 ^ s := ⟨_, rfl⟩
      have hPI : (x : Int) * 2 ^ s = (P : Int) := by rw [hP, Int.natCast_mul, Int.natCast_pow]; rfl
      have hsp := shl_split x s c hs1 hc
      rw [← hP] at hsp
      obtain ⟨z, hz⟩ : ∃ z, z = P % 4294967296 + c := ⟨_, rfl⟩
      have hzl : z < 4294967296 := by
        rw [hz, ← hsp]
        exact Nat.or_lt_two_pow (n := 32) (Nat.mod_lt _ (by decide)) hcB
      have hzI : bits .or .u32 ((P : Int) % 4294967296) (c : Int) = (z : Int) := by
        rw [show (P : Int) % 4294967296 = ((P % 4294967296 : Nat) : Int) by omega, u32_or_nat _ _ (Nat.mod_lt _ (by decide)) hcB, hsp, ← hz]
      have hPl : P < 4294967296 * 2 ^ s := by rw [hP]; exact Nat.mul_lt_mul_of_pos_right hxl (Nat.two_pow_pos _)
      have hcn : P / 4294967296 < 2 ^ s := Nat.div_lt_of_lt_mul hPl
      have hPl2 : P < 18446744073709551616 := Nat.lt_of_lt_of_le hPl (by have : 2 ^ s ≤ 2 ^ 32 := Nat.pow_le_pow_right (by decide) (by omega); omega)
      have hval : val (zs ++ [z]) + 4294967296 ^ (k + 1) * (P / 4294967296) = val (xs.take (k + 1)) * 2 ^ s := by
        rw [val_snoc, HZ.out, val_take_succ, ← hx, Nat.add_mul, ← HV.out, Nat.mul_assoc, ← hP, hz, Nat.pow_succ]
        have := Nat.div_add_mod P 4294967296
        generalize P / 4294967296 = q at *
        generalize P % 4294967296 = r at *
        rw [← this]; grind
      have hset := hbl.set k z
      have e : (zs ++ List.replicate (K + 1 - k) 0).set k z = (zs ++ [z]) ++ List.replicate (K + 1 - (k + 1)) 0 := by
        rw [List.set_append_right _ _ (by rw [HZ.out]; exact Nat.le_refl _), HZ.out, Nat.sub_self, show K + 1 - k = (K + 1 - (k + 1)) + 1 by omega, List.replicate_succ, List.set_cons_zero, List.append_assoc]; rfl
      rw [e] at hset
      have HS := Lib.hid hset
      have HVL := Lib.hid hval
      have HX := Lib.hid hx
      have HCN := Lib.hid hcn
      have HC := Lib.hid hc
      have hpo : (0 : Int) ≤ (P : Int) / 4294967296 ∧ (P : Int) / 4294967296 < 4294967296 := by omega
      clear hset hval hx hcn hsp hz e hP hPl hc
      go_wp2_with fail
      refine ⟨⟨k + 1, zs ++ [z], P / 4294967296, hlt, by go_num, by go_num, HCN.out, by rw [List.length_append, HZ.out]; rfl, hdz.append (.cons hzl .nil), HS.out, hbx.other hne _, hbe.setCell (Nat.le_refl _) _, HVL.out⟩, by simp [intOf]; omega⟩
    · have hkK : k = K := by omega
      have hlast : zs ++ List.replicate (K + 1 - k) 0 = zs ++ [0] := by rw [hkK, show K + 1 - K = 1 by omega]; rfl
      rw [hlast] at hbl
      have hset := hbl.set k c
      have e : (zs ++ [0]).set k c = zs ++ [c] := by
        rw [List.set_append_right _ _ (by rw [HZ.out]; exact Nat.le_refl _), HZ.out, Nat.sub_self]; rfl
      rw [e, hkK] at hset
      have hval : val (zs ++ [c]) = val (xs.take K) * 2 ^ s := by
        rw [val_snoc, HZ.out, HV.out, hkK]
      have hKk := Lib.hid hkK
      have HS := Lib.hid hset
      have HVL := Lib.hid hval
      rw [hkK] at hcq hfq
      clear hset hval e hlast hkK
      go_wp2_with fail
      exact bodyPost_ret (v := .slice (some ⟨w.heap.size, 0, none⟩) ((K : Nat) + 1 : Nat) ((K : Nat) + 1 : Nat)) (by simp [results, Tryz.results275, go_sem]) rfl ⟨zs ++ [c], rfl, HS.out, by rw [List.length_append, HZ.out, hKk.out]; rfl, hdz.append (.cons hcB .nil), HVL.out, hbe.setCell (Nat.le_refl _) _⟩
end Gus
