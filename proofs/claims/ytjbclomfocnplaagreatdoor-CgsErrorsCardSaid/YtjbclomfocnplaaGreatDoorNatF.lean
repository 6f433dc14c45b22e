import Derived.Test.YtjbclomfocnplaaGreatDoorNatE
/- Differences of numbers. -/
namespace Gus
open Go Go.RowKit Go.Proofs
theorem step_sub' {x y c z c' : Nat} {zs a d t : Nat} (h : zs + d = a + t * c) (hz : z + y + c = x + 4294967296 * c') : zs + t * z + (d + t * y) = a + t * x + t * 4294967296 * c' := by
  have e : t * (z + y + c) = t * (x + 4294967296 * c') := by rw [hz]
  grind
theorem sub_end {P zs n m c : Nat} (hz : zs < P) (hnm : n ≤ m) (h : zs + n = m + P * c) : zs = m - n := by
  cases c with
  | zero => rw [Nat.mul_zero] at h; omega
  | succ d =>
    rw [Nat.mul_succ] at h
    generalize P * d = Z at h
    omega
theorem bor_nat (x y c : Nat) (hx : x < 4294967296) (hy : y < 4294967296) (hc : c ≤ 1) : ∃ z c' : Nat, ((x : Int) - y - c) % 4294967296 = (z : Int) ∧ bor32 x y c = (c' : Int) ∧ c' ≤ 1 ∧ z < 4294967296 ∧ z + y + c = x + 4294967296 * c' := by
  rcases bor32_cases x y c with ⟨h, e⟩ | ⟨h, e⟩
  · exact ⟨x + 4294967296 - y - c, 1, by omega, e, by omega, by omega, by omega⟩
  · exact ⟨x - y - c, 0, by omega, e, by omega, by omega, by omega⟩
set_option maxRecDepth 100000 in
set_option maxHeartbeats 400000 in
theorem sub_lt (m n : Nat) (hmn : m < n) (hm : (wd m).length ≤ 549755813888) (hn : (wd n).length ≤ 549755813888) (w : World) :
    Calls Tryz.prog 166 #[natV m, natV n] w fun e w' => e = .returned (.tuple #[natV 0, .bool false]) ∧ Below w.heap.size w w' := by
  have hq := cmpN_lt hmn
  go_enter Tryz.func166, Tryz.ntmps166
  go_wp2_with fail
  (refine (Cmp_any m n (by omega) (by omega) _).mono ?_; rintro e w' ⟨rfl, hb⟩; have h := (In.self _).call hb; (try simp only [World.size_alloc] at h); (try simp only [World.size_setCell] at h); clear hb; have hc := h.cell; have hf := h.frozen)
  go_wp2_with fail
  exact bodyPost_ret (v := .tuple #[.agg #[.int .u64 0, .string ⟨#[]⟩], .bool false]) (by simp [results, Tryz.results166, go_sem, hc]) rfl ⟨rfl, by (refine In.bel ?_; (repeat (first | (refine In.setCell ?_ (by first | omega | (simp; done) | (simp; omega)) _) | (refine In.alloc ?_ _) | (refine In.drew ?_))); (first | exact In.self _ | (refine In.out h ?_ (by first | omega | (simp; done) | (simp; omega)); (repeat (first | (refine In.setCell ?_ (by first | omega | (simp; done) | (simp; omega)) _) | (refine In.alloc ?_ _) | (refine In.drew ?_))); exact In.self _)))⟩
set_option maxRecDepth 100000 in
set_option maxHeartbeats 400000 in
theorem sub_ge (m n : Nat) (hmn : n ≤ m) (hm : (wd m).length ≤ 549755813888) (hn : (wd n).length ≤ 549755813888) (w : World) :
    Calls Tryz.prog 166 #[natV m, natV n] w fun e w' => e = .returned (.tuple #[natV (m - n), .bool true]) ∧ Below w.heap.size w w' := by
  have hcn : ¬ cmpN m n < 0 := fun h => by have := (cmpN_neg m n).1 h; omega
  have he1 := smallB_eq m
  obtain ⟨W0, hW0⟩ : ∃ W0, W0 = ((w.alloc (.cells #[.int .u64 (lo m), .string (bg m)] 46)).alloc (.cells #[.int .u64 (lo n), .string (bg n)] 46)).alloc (.cells #[.int .u64 0, .string ⟨#[]⟩] 46) := ⟨_, rfl⟩
  have c0 : W0.cell? ⟨w.heap.size, 0, none⟩ = some (.int .u64 (lo m)) := by rw [hW0]; simp [go_sem]
  have c1 : W0.cell? ⟨w.heap.size, 1, none⟩ = some (.string (bg m)) := by rw [hW0]; simp [go_sem]
  have c2 : W0.cell? ⟨w.heap.size + 1, 0, none⟩ = some (.int .u64 (lo n)) := by rw [hW0]; simp [go_sem]
  have c3 : W0.cell? ⟨w.heap.size + 1, 1, none⟩ = some (.string (bg n)) := by rw [hW0]; simp [go_sem]
  have c4 : W0.cell? ⟨w.heap.size + 1 + 1, 0, none⟩ = some (.int .u64 0) := by rw [hW0]; simp [go_sem]
  have c5 : W0.cell? ⟨w.heap.size + 1 + 1, 1, none⟩ = some (.string ⟨#[]⟩) := by rw [hW0]; simp [go_sem]
  have f4 : W0.frozen? ⟨w.heap.size + 1 + 1, 0, none⟩ = false := by rw [hW0]; simp [go_sem]
  have f5 : W0.frozen? ⟨w.heap.size + 1 + 1, 1, none⟩ = false := by rw [hW0]; simp [go_sem]
  have hin : In w.heap.size w W0 := by rw [hW0]; exact (((In.self w).alloc _).alloc _).alloc _
  have h0 : In (w.heap.size + 1 + 1 + 1) W0 W0 := by have := In.self W0; rw [hW0, World.size_alloc, World.size_alloc, World.size_alloc, ← hW0] at this; exact this
  have HIN := Lib.hid hin
  have HW := Lib.hid hW0
  clear hin hW0
  go_enter Tryz.func166, Tryz.ntmps166
  go_upto_region 1 with fail
  rw [← HW.out]
  go_wp2_with fail
  refine (Cmp_any m n (by omega) (by omega) _).mono ?_
  rintro e wa ⟨rfl, hba⟩
  have h := h0.call hba
  clear hba
  have hc' := h.cell
  have hf' := h.frozen
  by_cases hs : m < 18446744073709551616
  · rw [smallB_true hs] at he1
    have hn1 : n < 18446744073709551616 := by omega
    rw [lo_small hs] at c0
    rw [lo_small hn1] at c2
    have e : natV (m - n) = .agg #[.int .u64 ((m : Int) - n), .string ⟨#[]⟩] := by
      rw [natV, lo_small (by omega), bg_small (by omega)]
      rw [show (((m - n : Nat)) : Int) = (m : Int) - n by omega]; rfl
    have HE := Lib.hid e
    clear e
    go_wp2_with fail
    exact bodyPost_ret (v := .tuple #[.agg #[.int .u64 ((m : Int) - n), .string ⟨#[]⟩], .bool true]) (by simp [results, Tryz.results166, go_sem, hc', c4, c5]) rfl ⟨by rw [HE.out], (((HIN.out.trans (h.mono (by omega))).setCell (by simp; omega) _).setCell (by simp; omega) _).bel⟩
  · rw [smallB_false hs] at he1
    go_upto_region 5 with fail
    refine wp_region_mix (In (w.heap.size + 1 + 1 + 1) W0) [(0, true), (2, true), (1, false), (3, false), (4, true), (5, true)] (by kernel_rfl) (by kernel_rfl) (by kernel_rfl) (by kernel_rfl) (fun _ _ d _ _ h => by cases d <;> exact h) ?_ ?_
    · exact h.drew
    clear hc' hf'
    repeat (apply mix_take; (focus rfl); (focus rfl); (focus (intro w' hw'; have hc' := hw'.cell; go_simp; exact rfl)); (try simp only [Act.put]); (try simp only [List.setIfInBounds_toArray]); (try simp only [List.set]))
    (apply mix_run; (focus rfl); (focus rfl); intro K hK; go_simp)
    refine (words_any m (by omega) _).mono ?_
    rintro e w1 ⟨b1, xs, rfl, hx, hx1, hx2, hx3, hx4, hx5, hb1⟩
    have h1 := h.drew.call hb1
    have A1 : WordsAt w1 b1 xs m := ⟨hx, hx1, hx2, hx3, hx4⟩
    have hN1 : w.heap.size + 1 + 1 + 1 ≤ b1 := Nat.le_trans h.siz hx5
    clear hx hx1 hx2 hx3 hx4 hx5 hb1
    (refine hK _ _ (h1) ?_; clear hK K; (try simp only [Act.put]); (try simp only [List.setIfInBounds_toArray]); (try simp only [List.set]))
    (apply mix_run; (focus rfl); (focus rfl); intro K hK; go_simp)
    refine (words_any n (by omega) _).mono ?_
    rintro e w2 ⟨b2, ys, rfl, hy, hy1, hy2, hy3, hy4, hy5, hb2⟩
    have h2 := h1.call hb2
    have A2 : WordsAt w2 b2 ys n := ⟨hy, hy1, hy2, hy3, hy4⟩
    have hne : b1 ≠ b2 := by have := A1.blk.lt; omega
    replace A1 := A1.call hb2
    have HNE := Lib.hid hne
    clear hy hy1 hy2 hy3 hy4 hy5 hb2 h1 hne
    (refine hK _ _ (h2) ?_; clear hK K; (try simp only [Act.put]); (try simp only [List.setIfInBounds_toArray]); (try simp only [List.set]))
    repeat (apply mix_take; (focus rfl); (focus rfl); (focus (intro w' hw'; go_simp; exact rfl)); (try simp only [Act.put]); (try simp only [List.setIfInBounds_toArray]); (try simp only [List.set]))
    refine mix_done ?_
    obtain ⟨L, hL⟩ : ∃ L, L = (wd m).length := ⟨_, rfl⟩
    obtain ⟨M, hM⟩ : ∃ M, M = (wd n).length := ⟨_, rfl⟩
    obtain ⟨X, hX⟩ : ∃ X, X = xs.length := ⟨_, rfl⟩
    have hLX : L ≤ X := by rw [hL, hX]; exact A1.le
    have hXl : X ≤ 1099511627776 := by rw [hX]; exact A1.cap
    have hLM : M ≤ L := by
      rw [hL, hM]
      refine Decidable.by_contra fun hh => ?_
      have := lt_of_length (m := m) (n := n) (by omega)
      omega
    rw [← hL, ← hM, ← hX]
    rw [← hL] at hm
    have HL := Lib.hid hL
    have HM := Lib.hid hM
    have HX := Lib.hid hX
    clear hL hM hX h
    go_wp2_with fail
    have hB := A1.blk
    have hdx := A1.dig
    have htx := Lib.hid A1.tk
    clear A1
    go_loopw [8, 31] (fun v8 v31 wr => ∃ k zs c, k ≤ L ∧ v31 = .int .i64 (k : Nat) ∧ v8 = .int .u32 (c : Nat) ∧ c ≤ 1 ∧ zs.length = k ∧ Digs zs ∧ Blk wr b1 (zs ++ xs.drop k) ∧ WordsAt wr b2 ys n ∧ In (w.heap.size + 1 + 1 + 1) W0 wr ∧
      val zs + val ((wd n).take k) = val ((wd m).take k) + 4294967296 ^ k * c) (fun _ v31 _ => L - (intOf v31).toNat)
    case atStart => exact ⟨0, [], 0, Nat.zero_le _, rfl, rfl, by omega, rfl, .nil, hB, A2, h2, by simp [val]⟩
    case round =>
      obtain ⟨k, zs, c, hk, rfl, rfl, hc, hz, hdz, hblk, hw2, hI, hv⟩ := hrel
      have HV := Lib.hid hv
      have HZ := Lib.hid hz
      clear hv hz
      by_cases hlt : k < L
      · obtain ⟨x, hx⟩ : ∃ x, x = (wd m).getD k 0 := ⟨_, rfl⟩
        obtain ⟨y, hy⟩ : ∃ y, y = (wd n).getD k 0 := ⟨_, rfl⟩
        have hxl : x < 4294967296 := by rw [hx]; exact (wd_digs m).getD k
        have hyl : y < 4294967296 := by rw [hy]; exact (wd_digs n).getD k
        have hlX : xs.length = X := HX.out.symm
        have hcell := hblk.cell (i := k) (by rw [List.length_append, List.length_drop, hlX, HZ.out]; omega)
        have hg0 : (zs ++ xs.drop k).getD k 0 = x := by
          rw [List.getD_eq_getElem?_getD, List.getElem?_append_right (by have := HZ.out; omega), HZ.out, Nat.sub_self, List.getElem?_drop, hx, Nat.add_zero, ← htx.out, getD_take (by rw [← HL.out]; exact hlt), List.getD_eq_getElem?_getD]
        rw [hg0] at hcell
        have hfr := hblk.frozen k
        obtain ⟨z, c', hz1, hz2, hc', hzl, hzv⟩ := bor_nat x y c hxl hyl hc
        have hset : (zs ++ xs.drop k).set k z = (zs ++ [z]) ++ xs.drop (k + 1) := by
          rw [List.set_append_right _ _ (by have := HZ.out; omega), HZ.out, Nat.sub_self, List.drop_eq_getElem_cons (by omega), List.set_cons_zero, List.append_assoc]; rfl
        have hstep : val (zs ++ [z]) + val ((wd n).take (k + 1)) = val ((wd m).take (k + 1)) + 4294967296 ^ (k + 1) * c' := by
          rw [val_snoc, HZ.out, val_take_succ, val_take_succ, ← hx, ← hy, Nat.pow_succ]
          exact step_sub' HV.out hzv
        have hb' := hblk.set k z
        rw [hset] at hb'
        have HB := Lib.hid hb'
        have HS2 := Lib.hid hstep
        have HX2 := Lib.hid hx
        have HZ1 := Lib.hid hz1
        have HZ2 := Lib.hid hz2
        clear hb' hstep hset hg0 hlX hx hz1 hz2 hzv
        have hcy : k < M → wr.cell? ⟨b2, k, none⟩ = some (.int .u32 (y : Nat)) := fun h => by
          have := hw2.blk.cell (i := k) (by have := hw2.le; rw [← HM.out] at this; omega)
          rw [← getD_take (l := ys) (k := (wd n).length) (by rw [← HM.out]; exact h), hw2.tk, ← hy] at this
          exact this
        have hy0 : ¬ k < M → y = 0 := fun h => by rw [hy, List.getD_eq_getElem?_getD, List.getElem?_eq_none (by rw [← HM.out]; omega)]; rfl
        clear hy
        by_cases hkM : k < M
        · replace hcy := hcy hkM
          clear hy0
          go_wp2_with fail
          refine (sub32 _ _ _ (by omega) (by omega) (by omega) (by omega) (by omega) (by omega) _).mono ?_
          rintro e w' ⟨rfl, rfl⟩
          rw [HZ1.out, HZ2.out]
          go_wp2_with fail
          exact ⟨⟨k + 1, zs ++ [z], c', by omega, by go_num, rfl, hc', by simp [HZ.out], hdz.append (.cons hzl .nil), HB.out, hw2.other (by simpa using HNE.out) _, hI.setCell (by simp; omega) _, HS2.out⟩, by simp [intOf]; omega⟩
        · have hyz := hy0 hkM
          subst hyz
          clear hcy hy0
          go_wp2_with fail
          refine (sub32 _ _ _ (by omega) (by omega) (by omega) (by omega) (by omega) (by omega) _).mono ?_
          rintro e w' ⟨rfl, rfl⟩
          have e1 := HZ1.out
          have e2 := HZ2.out
          simp only [Int.natCast_zero] at e1 e2
          rw [e1, e2]
          clear e1 e2
          go_wp2_with fail
          exact ⟨⟨k + 1, zs ++ [z], c', by omega, by go_num, rfl, hc', by simp [HZ.out], hdz.append (.cons hzl .nil), HB.out, hw2.other (by simpa using HNE.out) _, hI.setCell (by simp; omega) _, HS2.out⟩, by simp [intOf]; omega⟩
      · have hkL : k = L := by omega
        have hz1 : zs.length = L := by rw [HZ.out, hkL]
        have hval : val zs = m - n := by
          have h1 := HV.out
          rw [hkL, List.take_of_length_le (by have := HM.out; omega), List.take_of_length_le (by have := HL.out; omega), wd_val, wd_val] at h1
          have h2 := val_lt hdz
          rw [hz1] at h2
          exact sub_end h2 hmn h1
        have htk : (zs ++ xs.drop k).take L = zs := by rw [List.take_append_of_le_length (by omega), List.take_of_length_le (by omega)]
        have hof := of_any wr b1 L X (zs ++ xs.drop k) hblk (hdz.append (hdx.drop k)) (by rw [List.length_append]; omega) hLX (by omega) (by omega)
        rw [htk, hval] at hof
        have HOF := Lib.hid hof
        clear hkL hz1 hval htk hof hblk hw2 hB A2 h2
        go_wp2_with fail
        refine HOF.out.mono ?_
        rintro e w' ⟨rfl, hb⟩
        have h := hI.call hb
        have hc' := h.cell
        have hf' := h.frozen
        clear hb hI
        go_wp2_with fail
        exact bodyPost_ret (v := .tuple #[natV (m - n), .bool true]) (by simp [results, Tryz.results166, go_sem, hc', c4, c5]) rfl ⟨rfl, (((HIN.out.trans (h.mono (by omega))).setCell (by simp; omega) _).setCell (by simp; omega) _).bel⟩
end Gus
