import Derived.Test.YtjbclomfocnplaaGreatDoorNatH
/- Halving; subtraction of a multiple. -/
namespace Gus
open Go Go.RowKit Go.Proofs
section
variable {w0 w w' : World} {b : Nat} {row : Option Nat}
theorem gr_refl (w : World) (row : Option Nat) : w.grownBy w row := ⟨rfl, rfl, rfl, Nat.le_refl _, fun _ _ _ => rfl⟩
theorem gr_set (h : w0.grownBy w (some b)) (i : Nat) (v : Value) : w0.grownBy (w.setCell ⟨b, i, none⟩ v) (some b) :=
  ⟨by rw [← h.os]; rfl, by rw [← h.tape]; rfl, by rw [← h.output]; rfl, by rw [World.size_setCell]; exact h.size, fun j hj hne => by
    rw [heap_setCell_other w ⟨b, i, none⟩ j v (fun e => hne (congrArg some e))]; exact h.block j hj hne⟩
theorem gr_call (h : w0.grownBy w row) (hb : Below w.heap.size w w') : w0.grownBy w' row :=
  ⟨hb.os.trans h.os, hb.tape.trans h.tape, hb.output.trans h.output, Nat.le_trans h.size hb.size, fun j hj hne => (hb.block j (Nat.lt_of_lt_of_le hj h.size)).trans (h.block j hj hne)⟩
theorem gr_below {N : Nat} (h : w.grownBy w' (some b)) (hb : N ≤ b) (hs : N ≤ w.heap.size) : Below N w w' :=
  ⟨h.os, h.tape, h.output, h.size, fun j hj => h.block j (by omega) (fun e => by cases e; omega)⟩
theorem gr_drew (h : w0.grownBy w row) : w0.grownBy w.drew row := gr_call h ((Below.refl _ _).drew)
end
theorem half_or (x y : Nat) (hx : x < 4294967296) : bits .or .u32 ((x : Int) / 2) (IntKind.u32.wrap ((y : Int) * 2147483648)) = ((x / 2 + 2147483648 * (y % 2) : Nat) : Int) := by
  rw [IntKind.wrap_u32, show (x : Int) / 2 = ((x / 2 : Nat) : Int) by omega, show (y : Int) * 2147483648 % 4294967296 = ((2 ^ 31 * (y % 2) : Nat) : Int) by omega, u32_or_nat _ _ (by omega) (by omega), Nat.or_comm,
    ← Nat.two_pow_add_eq_or_of_lt (show x / 2 < 2 ^ 31 by omega), Nat.add_comm]
theorem half_step {zs z o x y t v : Nat} (h : 2 * zs + o = v + t * (x % 2)) (hz : z = x / 2 + 2147483648 * (y % 2)) : 2 * (zs + t * z) + o = v + t * x + t * 4294967296 * (y % 2) := by
  have e : t * (2 * z) = t * (2 * (x / 2) + 4294967296 * (y % 2)) := by rw [hz]; congr 1; omega
  have e2 : t * (2 * (x / 2) + x % 2) = t * x := by congr 1; omega
  grind
set_option maxRecDepth 100000 in
set_option maxHeartbeats 1000000 in
/-- nats.half -/
theorem half_any (w : World) (b L cap : Nat) (xs : List Nat) (hb : Blk w b xs) (hd : Digs xs) (hL : L = xs.length) (hs : L ≤ 1099511627776) :
    Calls Tryz.prog 277 #[.slice (some ⟨b, 0, none⟩) L cap] w fun e w' => ∃ zs, e = .returned (.tuple #[]) ∧ Blk w' b zs ∧ zs.length = L ∧ Digs zs ∧ val zs = val xs / 2 ∧ w.grownBy w' (some b) := by
  have HL := Lib.hid hL
  clear hL
  go_enter Tryz.func277, Tryz.ntmps277
  go_wp2_with fail
  go_loopw [5] (fun v5 wr => ∃ k zs, k ≤ L ∧ v5 = .int .i64 (k : Nat) ∧ zs.length = k ∧ Digs zs ∧ Blk wr b (zs ++ xs.drop k) ∧ w.grownBy wr (some b) ∧ 2 * val zs + xs.getD 0 0 % 2 = val (xs.take k) + 4294967296 ^ k * (xs.getD k 0 % 2)) (fun v5 _ => L - (intOf v5).toNat)
  case atStart => exact ⟨0, [], Nat.zero_le _, rfl, rfl, .nil, hb, gr_refl _ _, by simp [val]⟩
  case round =>
    obtain ⟨k, zs, hk, rfl, hz, hdz, hbl, hgr, hv⟩ := hrel
    have HV := Lib.hid hv
    have HZ := Lib.hid hz
    clear hv hz hb
    by_cases hlt : k < L
    · obtain ⟨x, hx⟩ : ∃ x, x = xs.getD k 0 := ⟨_, rfl⟩
      have hxl : x < 4294967296 := by rw [hx]; exact hd.getD k
      have hlen : (zs ++ xs.drop k).length = L := by rw [List.length_append, List.length_drop, ← HL.out, HZ.out]; omega
      have hcq := hbl.cell (i := k) (by rw [hlen]; exact hlt)
      have e0 : (zs ++ xs.drop k).getD k 0 = x := by
        rw [List.getD_eq_getElem?_getD, List.getElem?_append_right (by rw [HZ.out]; exact Nat.le_refl _), HZ.out, Nat.sub_self, List.getElem?_drop, Nat.add_zero, hx, List.getD_eq_getElem?_getD]
      rw [e0] at hcq
      have hfq := hbl.frozen k
      have e : ∀ z, (zs ++ xs.drop k).set k z = (zs ++ [z]) ++ xs.drop (k + 1) := fun z => by
        rw [List.set_append_right _ _ (by rw [HZ.out]; exact Nat.le_refl _), HZ.out, Nat.sub_self, List.drop_eq_getElem_cons (by rw [← HL.out]; exact hlt), List.set_cons_zero, List.append_assoc]; rfl
      have hset := hbl.set k (x / 2)
      rw [e] at hset
      have hg2 := gr_set hgr k (.int .u32 ((x / 2 : Nat) : Int))
      rw [show (((x / 2 : Nat)) : Int) = (x : Int) / 2 by omega] at hset hg2
      have HX := Lib.hid hx
      have HE := Lib.hid e
      clear hlen e0 e hx
      go_upto_region 4 with fail
      generalize wr.setCell ⟨b, k, none⟩ (.int .u32 ((x : Int) / 2)) = w1 at *
      clear hcq hfq hbl hgr
      obtain ⟨y, hy⟩ : ∃ y, y = xs.getD (k + 1) 0 := ⟨_, rfl⟩
      have hyl : y < 4294967296 := by rw [hy]; exact hd.getD _
      have hcq := hset.cell (i := k) (by rw [List.length_append, List.length_append, HZ.out, List.length_drop, ← HL.out, List.length_singleton]; omega)
      have e0 : ((zs ++ [x / 2]) ++ xs.drop (k + 1)).getD k 0 = x / 2 := by
        rw [List.getD_eq_getElem?_getD, List.append_assoc, List.getElem?_append_right (by rw [HZ.out]; exact Nat.le_refl _), HZ.out, Nat.sub_self]; rfl
      rw [e0] at hcq
      have hfq := hset.frozen k
      have hset2 : ∀ z, ((zs ++ [x / 2]) ++ xs.drop (k + 1)).set k z = (zs ++ [z]) ++ xs.drop (k + 1) := fun z => by
        rw [List.append_assoc, List.set_append_right _ _ (by rw [HZ.out]; exact Nat.le_refl _), HZ.out, Nat.sub_self, List.append_assoc]; rfl
      rw [show (((x / 2 : Nat)) : Int) = (x : Int) / 2 by omega] at hcq
      by_cases hl2 : k + 1 < L
      · have hcy := hset.cell (i := k + 1) (by rw [List.length_append, List.length_append, HZ.out, List.length_drop, ← HL.out, List.length_singleton]; omega)
        have e1 : ((zs ++ [x / 2]) ++ xs.drop (k + 1)).getD (k + 1) 0 = y := by
          rw [List.getD_eq_getElem?_getD, List.getElem?_append_right (by rw [List.length_append, HZ.out]; exact Nat.le_refl _), List.length_append, HZ.out, List.length_singleton, Nat.sub_self, List.getElem?_drop, Nat.add_zero, hy, List.getD_eq_getElem?_getD]
        rw [e1] at hcy
        obtain ⟨z, hz⟩ : ∃ z, z = x / 2 + 2147483648 * (y % 2) := ⟨_, rfl⟩
        have hor := half_or x y hxl
        rw [← hz] at hor
        have hzl : z < 4294967296 := by omega
        have hst := half_step (z := z) (y := y) HV.out (by rw [← HX.out]; exact hz)
        rw [← val_take_succ, ← Nat.pow_succ] at hst
        have hset3 := hset.set k z
        rw [hset2] at hset3
        have hst' : 2 * val (zs ++ [z]) + xs.getD 0 0 % 2 = val (xs.take (k + 1)) + 4294967296 ^ (k + 1) * (xs.getD (k + 1) 0 % 2) := by
          rw [val_snoc, HZ.out, ← hy]; exact hst
        have HS := Lib.hid hset3
        have HST := Lib.hid hst'
        clear hz hy hst hset3 hst' e0 e1
        have hwk : IntKind.i64.wrap ((k : Int) + 1) = (k : Int) + 1 := by simp [IntKind.wrap, IntKind.bits, IntKind.signed]; omega
        have hk1 : (0 : Int) ≤ (k : Int) + 1 := by omega
        have hk2 : (k : Int) + 1 < L := by omega
        have hk3 : ((k : Int) + 1).toNat = k + 1 := by omega
        go_upto_region 5 with fail
        (refine wp_region_tail (fun w' => w' = w1.drew) 12 (by kernel_rfl) (by kernel_rfl) rfl ?_; simp only [List.take_succ_cons, List.take_zero, List.drop_succ_cons, List.drop_zero]; (repeat (first | (apply wpQuiet_run; (focus rfl); (focus (rintro _ rfl; go_simp; exact rfl)); (try simp only [Act.put]); (try simp only [List.setIfInBounds_toArray]); (try simp only [List.set])) | (apply wpQuiet_skip; (focus rfl); (try simp only [Act.put]); (try simp only [List.setIfInBounds_toArray]); (try simp only [List.set])))); refine wpQuiet_nil ?_; rintro _ rfl)
        have hcq2 : w1.drew.cell? ⟨b, k, none⟩ = some (.int .u32 ((x : Int) / 2)) := hcq
        have hfq2 : w1.drew.frozen? ⟨b, k, none⟩ = false := hfq
        have hg3 := gr_drew hg2
        have hB3 : Blk (w1.drew.setCell ⟨b, k, none⟩ (.int .u32 (z : Int))) b (zs ++ [z] ++ xs.drop (k + 1)) := by
          rw [← hset2]; exact hset.drew.set k z
        generalize w1.drew = w2 at *
        clear hor hwk hcq hfq hset hg2 hk3 HS hset2
        go_wp2_with fail
        refine ⟨⟨k + 1, zs ++ [z], hlt, by go_num, by rw [List.length_append, HZ.out]; rfl, hdz.append (.cons hzl .nil), hB3, gr_set hg3 k _, HST.out⟩, by simp [intOf]; omega⟩
      · have hy0 : y = 0 := by rw [hy, List.getD_eq_getElem?_getD, List.getElem?_eq_none (by rw [← HL.out]; omega)]; rfl
        have hst := half_step (z := x / 2) (y := y) HV.out (by rw [← HX.out, hy0]; omega)
        rw [← val_take_succ, ← Nat.pow_succ] at hst
        have hst' : 2 * val (zs ++ [x / 2]) + xs.getD 0 0 % 2 = val (xs.take (k + 1)) + 4294967296 ^ (k + 1) * (xs.getD (k + 1) 0 % 2) := by
          rw [val_snoc, HZ.out, ← hy]; exact hst
        have HST := Lib.hid hst'
        clear hy hst hst' e0 hset2 hy0
        go_wp2_with fail
        exact ⟨⟨k + 1, zs ++ [x / 2], hlt, by go_num, by rw [List.length_append, HZ.out]; rfl, hdz.append (.cons (by omega) .nil), hset, hg2, HST.out⟩, by simp [intOf]; omega⟩
    · have hkL : k = L := by omega
      have hv := HV.out
      rw [hkL, List.take_of_length_le (by rw [← HL.out]; exact Nat.le_refl _), show xs.getD L 0 = 0 by rw [List.getD_eq_getElem?_getD, List.getElem?_eq_none (by rw [← HL.out]; exact Nat.le_refl _)]; rfl] at hv
      have hz2 := HZ.out
      rw [hkL] at hz2
      rw [hkL, List.drop_of_length_le (by rw [← HL.out]; exact Nat.le_refl _), List.append_nil] at hbl
      have hval : val zs = val xs / 2 := by rw [Nat.zero_mod, Nat.mul_zero] at hv; omega
      have HVL := Lib.hid hval
      have HZ2 := Lib.hid hz2
      clear hval hv hkL hz2
      go_wp2_with fail
      exact bodyPost_end (v := .tuple #[]) (by simp [results, Tryz.results277, go_sem]) rfl ⟨zs, rfl, hbl, HZ2.out, hdz, HVL.out, hgr⟩
end Gus
