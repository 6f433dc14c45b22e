import Derived.Test.YtakblfhmllgepaaGreatDoorBits
/- Comparison of numbers. -/
namespace Gus
open Go Go.RowKit Go.Proofs
def cmpN (m n : Nat) : Int := if m < n then -1 else if n < m then 1 else 0
theorem cmpN_lt {m n : Nat} (h : m < n) : cmpN m n = -1 := if_pos h
theorem cmpN_gt {m n : Nat} (h : n < m) : cmpN m n = 1 := by unfold cmpN; rw [if_neg (by omega), if_pos h]
theorem cmpN_eq {m n : Nat} (h : m = n) : cmpN m n = 0 := by unfold cmpN; rw [if_neg (by omega), if_neg (by omega)]
theorem cmpN_neg (m n : Nat) : cmpN m n < 0 ↔ m < n := by unfold cmpN; split <;> (try split) <;> omega
theorem val_split (l : List Nat) (i : Nat) : val l = val (l.take i) + 4294967296 ^ (min i l.length) * val (l.drop i) := by
  conv => lhs; rw [← List.take_append_drop i l]
  rw [val_append, List.length_take]
theorem val_at (l : List Nat) (i : Nat) (hi : i < l.length) : val l = val (l.take i) + 4294967296 ^ i * (l.getD i 0 + 4294967296 * val (l.drop (i + 1))) := by
  rw [val_split l i, Nat.min_eq_left (by omega), List.drop_eq_getElem_cons hi]
  simp [val, hi]
theorem val_lt_at {l m : List Nat} (dl : Digs l) (i : Nat) (hl : i < l.length) (hm : i < m.length) (hd : l.drop (i + 1) = m.drop (i + 1)) (h : l.getD i 0 < m.getD i 0) : val l < val m := by
  rw [val_at l i hl, val_at m i hm, hd]
  have h1 := val_lt (dl.take i)
  rw [List.length_take, Nat.min_eq_left (by omega)] at h1
  generalize val (m.drop (i + 1)) = D at *
  generalize l.getD i 0 = p at *
  generalize m.getD i 0 = q at *
  generalize val (l.take i) = a at *
  generalize val (m.take i) = c at *
  have h2 : 4294967296 ^ i * (p + 4294967296 * D + 1) ≤ 4294967296 ^ i * (q + 4294967296 * D) := Nat.mul_le_mul_left _ (by omega)
  rw [Nat.mul_add _ _ 1] at h2
  omega
theorem drop_eq_of {l m : List Nat} {k i : Nat} (hl : l.length = k) (hm : m.length = k) (h : ∀ j, i ≤ j → j < k → l.getD j 0 = m.getD j 0) : l.drop i = m.drop i := by
  apply List.ext_getElem?
  intro j
  rw [List.getElem?_drop, List.getElem?_drop]
  by_cases hj : i + j < k
  · have := h (i + j) (by omega) hj
    simpa [hl, hm, hj] using this
  · rw [List.getElem?_eq_none (by omega), List.getElem?_eq_none (by omega)]
theorem lt_of_length {m n : Nat} (h : (wd m).length < (wd n).length) : m < n := by
  have h1 := val_lt (wd_digs m)
  rw [wd_val] at h1
  rcases List.eq_nil_or_concat (wd n) with h0 | ⟨l, d, h0⟩
  · rw [h0] at h; simp at h
  · rw [List.concat_eq_append] at h0
    have hn := wd_nrm n; rw [h0, Nrm.snoc] at hn
    have hv := wd_val n; rw [h0] at hv
    have := val_ge_of_nrm l d hn
    rw [h0, List.length_append, List.length_singleton] at h
    have h3 : 4294967296 ^ (wd m).length ≤ 4294967296 ^ l.length := Nat.pow_le_pow_right (by decide) (by omega)
    omega
theorem getD_take {l : List Nat} {k j : Nat} (h : j < k) : (l.take k).getD j 0 = l.getD j 0 := by
  rw [List.getD_eq_getElem?_getD, List.getD_eq_getElem?_getD, List.getElem?_take, if_pos h]
set_option maxRecDepth 100000 in
set_option maxHeartbeats 400000 in
theorem cmp_same (w : World) (b1 b2 k c1 c2 m n : Nat) (xs ys : List Nat) (hx : Blk w b1 xs) (hy : Blk w b2 ys) (h1 : Hid (xs.take k = wd m)) (h2 : Hid (ys.take k = wd n)) (hk1 : k ≤ xs.length) (hk2 : k ≤ ys.length) (hs : k ≤ 1099511627776) :
    Calls Tryz.prog 148 #[.slice (some ⟨b1, 0, none⟩) k c1, .slice (some ⟨b2, 0, none⟩) k c2] w fun e w' => e = .returned (.int .i64 (cmpN m n)) ∧ Below w.heap.size w w' := by
  go_enter Tryz.func148, Tryz.ntmps148
  go_wp2_with fail
  go_loopw [5] (fun v wr => ∃ i : Nat, i ≤ k ∧ v = .int .i64 ((i : Int) - 1) ∧ (∀ j, i ≤ j → j < k → xs.getD j 0 = ys.getD j 0) ∧ Blk wr b1 xs ∧ Blk wr b2 ys ∧ Below w.heap.size w wr) (fun v _ => (intOf v + 1).toNat)
  case atStart => exact ⟨k, Nat.le_refl _, rfl, fun j h1 h2 => by omega, hx, hy, .refl _ _⟩
  case round =>
    obtain ⟨i, hi, rfl, heq, hbx, hby, hbel⟩ := hrel
    have HE : Hid (∀ j, i ≤ j → j < k → xs.getD j 0 = ys.getD j 0) := heq
    clear heq
    by_cases h0 : i = 0
    · subst h0
      have hz : cmpN m n = 0 := cmpN_eq (by
        have e : xs.take k = ys.take k := by
          have := drop_eq_of (l := xs.take k) (m := ys.take k) (k := k) (i := 0) (by simp; omega) (by simp; omega) (fun j h1 h2 => by rw [getD_take h2, getD_take h2]; exact HE.out j h1 h2)
          simpa using this
        rw [h1.out, h2.out] at e
        rw [← wd_val m, ← wd_val n, e])
      have HZ := Lib.hid hz
      clear hz
      go_wp2_with fail
      go_ret
      exact ⟨by rw [HZ.out]; rfl, hbel⟩
    · have hp : 1 ≤ i := by omega
      have hcx := hbx.cell (i := i - 1) (by omega)
      have hcy := hby.cell (i := i - 1) (by omega)
      obtain ⟨p, hp0⟩ : ∃ p, p = xs.getD (i - 1) 0 := ⟨_, rfl⟩
      obtain ⟨q, hq0⟩ : ∃ q, q = ys.getD (i - 1) 0 := ⟨_, rfl⟩
      rw [← hp0] at hcx
      rw [← hq0] at hcy
      have HP := Lib.hid hp0
      have HQ := Lib.hid hq0
      clear hp0 hq0 h0
      have ht : ((i : Int) - 1).toNat = i - 1 := by omega
      have hr1 : (0 : Int) ≤ (i : Int) - 1 := by omega
      have hr2 : ((i : Int) - 1) < k := by omega
      by_cases hpq : p = q
      · subst hpq
        go_wp2_with fail
        (refine wp_region_all (fun w' => w' = wr.drew) (by kernel_rfl) (by kernel_rfl) rfl ?_; (repeat (first | (apply wpQuiet_run; (focus rfl); (focus (rintro _ rfl; go_simp; exact rfl)); (try simp only [Act.put]); (try simp only [List.setIfInBounds_toArray]); (try simp only [List.set])) | (apply wpQuiet_skip; (focus rfl); (try simp only [Act.put]); (try simp only [List.setIfInBounds_toArray]); (try simp only [List.set])))); refine wpQuiet_nil ?_; rintro _ rfl)
        go_wp2_with fail
        refine ⟨⟨i - 1, by omega, by go_num, fun j h1 h2 => ?_, hbx, hby, hbel.drew⟩, by simp [intOf]; omega⟩
        by_cases hj : j = i - 1
        · rw [hj, ← HP.out, ← HQ.out]
        · exact HE.out j (by omega) h2
      · have hlx : (xs.take k).length = k := by simp; omega
        have hly : (ys.take k).length = k := by simp; omega
        have hdr : (xs.take k).drop (i - 1 + 1) = (ys.take k).drop (i - 1 + 1) := drop_eq_of hlx hly (fun j h1 h2 => by rw [getD_take h2, getD_take h2]; exact HE.out j (by omega) h2)
        have hgx : (xs.take k).getD (i - 1) 0 = p := by rw [getD_take (by omega), HP.out]
        have hgy : (ys.take k).getD (i - 1) 0 = q := by rw [getD_take (by omega), HQ.out]
        rw [h1.out] at hlx hdr hgx
        rw [h2.out] at hly hdr hgy
        rcases Nat.lt_or_gt_of_ne hpq with hlt | hgt
        · have hc : cmpN m n = -1 := cmpN_lt (by
            have := val_lt_at (wd_digs m) (i - 1) (by omega) (by omega) hdr (by omega)
            rwa [wd_val, wd_val] at this)
          have HC := Lib.hid hc
          clear hc hlx hly hdr hgx hgy
          go_wp2_with fail
          (refine wp_region_all (fun w' => w' = wr.drew) (by kernel_rfl) (by kernel_rfl) rfl ?_; (repeat (first | (apply wpQuiet_run; (focus rfl); (focus (rintro _ rfl; go_simp; exact rfl)); (try simp only [Act.put]); (try simp only [List.setIfInBounds_toArray]); (try simp only [List.set])) | (apply wpQuiet_skip; (focus rfl); (try simp only [Act.put]); (try simp only [List.setIfInBounds_toArray]); (try simp only [List.set])))); refine wpQuiet_nil ?_; rintro _ rfl)
          go_wp2_with fail
          (refine wp_region_all (fun w' => w' = wr.drew.drew) (by kernel_rfl) (by kernel_rfl) rfl ?_; (repeat (first | (apply wpQuiet_run; (focus rfl); (focus (rintro _ rfl; go_simp; exact rfl)); (try simp only [Act.put]); (try simp only [List.setIfInBounds_toArray]); (try simp only [List.set])) | (apply wpQuiet_skip; (focus rfl); (try simp only [Act.put]); (try simp only [List.setIfInBounds_toArray]); (try simp only [List.set])))); refine wpQuiet_nil ?_; rintro _ rfl)
          go_wp2_with fail
          go_ret
          exact ⟨by rw [HC.out]; rfl, hbel.drew.drew⟩
        · have hc : cmpN m n = 1 := cmpN_gt (by
            have := val_lt_at (wd_digs n) (i - 1) (by omega) (by omega) hdr.symm (by omega)
            rwa [wd_val, wd_val] at this)
          have HC := Lib.hid hc
          clear hc hlx hly hdr hgx hgy
          go_wp2_with fail
          (refine wp_region_all (fun w' => w' = wr.drew) (by kernel_rfl) (by kernel_rfl) rfl ?_; (repeat (first | (apply wpQuiet_run; (focus rfl); (focus (rintro _ rfl; go_simp; exact rfl)); (try simp only [Act.put]); (try simp only [List.setIfInBounds_toArray]); (try simp only [List.set])) | (apply wpQuiet_skip; (focus rfl); (try simp only [Act.put]); (try simp only [List.setIfInBounds_toArray]); (try simp only [List.set])))); refine wpQuiet_nil ?_; rintro _ rfl)
          go_wp2_with fail
          (refine wp_region_all (fun w' => w' = wr.drew.drew) (by kernel_rfl) (by kernel_rfl) rfl ?_; (repeat (first | (apply wpQuiet_run; (focus rfl); (focus (rintro _ rfl; go_simp; exact rfl)); (try simp only [Act.put]); (try simp only [List.setIfInBounds_toArray]); (try simp only [List.set])) | (apply wpQuiet_skip; (focus rfl); (try simp only [Act.put]); (try simp only [List.setIfInBounds_toArray]); (try simp only [List.set])))); refine wpQuiet_nil ?_; rintro _ rfl)
          go_wp2_with fail
          go_ret
          exact ⟨by rw [HC.out]; rfl, hbel.drew.drew⟩
set_option maxRecDepth 100000 in
theorem cmp_any (w : World) (b1 b2 k1 k2 c1 c2 m n : Nat) (xs ys : List Nat) (hx : Blk w b1 xs) (hy : Blk w b2 ys) (h1 : xs.take k1 = wd m) (h2 : ys.take k2 = wd n) (hk1 : k1 ≤ xs.length) (hk2 : k2 ≤ ys.length) (hs1 : k1 ≤ 1099511627776) (hs2 : k2 ≤ 1099511627776) :
    Calls Tryz.prog 148 #[.slice (some ⟨b1, 0, none⟩) k1 c1, .slice (some ⟨b2, 0, none⟩) k2 c2] w fun e w' => e = .returned (.int .i64 (cmpN m n)) ∧ Below w.heap.size w w' := by
  by_cases hk : k1 = k2
  · subst hk
    exact cmp_same w b1 b2 k1 c1 c2 m n xs ys hx hy h1 h2 hk1 hk2 hs1
  · have l1 : (wd m).length = k1 := by rw [← h1]; simp; omega
    have l2 : (wd n).length = k2 := by rw [← h2]; simp; omega
    have hc : cmpN m n = if (k1 : Int) - k2 < 0 then -1 else if (k1 : Int) - k2 = 0 then 0 else 1 := by
      rcases Nat.lt_or_gt_of_ne hk with h | h
      · rw [if_pos (by omega)]; exact cmpN_lt (lt_of_length (by omega))
      · rw [if_neg (by omega), if_neg (by omega)]; exact cmpN_gt (lt_of_length (by omega))
    have HC := Lib.hid hc
    have hne : ((k1 : Int) != k2) = true := by simp; omega
    clear h1 h2 l1 l2 hc
    go_enter Tryz.func148, Tryz.ntmps148
    go_wp2_with fail
    refine (sign_any _ _).mono ?_
    rintro e w' ⟨rfl, rfl⟩
    rw [← HC.out]
    go_wp2_with fail
    go_ret
    exact ⟨rfl, .refl _ _⟩
set_option maxRecDepth 100000 in
theorem Cmp_any (m n : Nat) (hm : (wd m).length ≤ 1099511627776) (hn : (wd n).length ≤ 1099511627776) (w : World) :
    Calls Tryz.prog 127 #[natV m, natV n] w fun e w' => e = .returned (.int .i64 (cmpN m n)) ∧ Below w.heap.size w w' := by
  by_cases hs : m < 18446744073709551616 ∧ n < 18446744073709551616
  · obtain ⟨h1, h2⟩ := hs
    rw [natV, natV, lo_small h1, lo_small h2, bg_small h1, bg_small h2]
    rcases Nat.lt_trichotomy m n with h | h | h
    · rw [cmpN_lt h]
      go_enter Tryz.func127, Tryz.ntmps127
      go_wp2_with fail
      go_ret
      exact ⟨rfl, by (refine In.bel ?_; (repeat (first | (refine In.setCell ?_ (by first | omega | (simp; done) | (simp; omega)) _) | (refine In.alloc ?_ _) | (refine In.drew ?_))); (first | exact In.self _ | (refine In.out h ?_ (by first | omega | (simp; done) | (simp; omega)); (repeat (first | (refine In.setCell ?_ (by first | omega | (simp; done) | (simp; omega)) _) | (refine In.alloc ?_ _) | (refine In.drew ?_))); exact In.self _)))⟩
    · rw [cmpN_eq h]; subst h
      go_enter Tryz.func127, Tryz.ntmps127
      go_wp2_with fail
      go_ret
      exact ⟨rfl, by (refine In.bel ?_; (repeat (first | (refine In.setCell ?_ (by first | omega | (simp; done) | (simp; omega)) _) | (refine In.alloc ?_ _) | (refine In.drew ?_))); (first | exact In.self _ | (refine In.out h ?_ (by first | omega | (simp; done) | (simp; omega)); (repeat (first | (refine In.setCell ?_ (by first | omega | (simp; done) | (simp; omega)) _) | (refine In.alloc ?_ _) | (refine In.drew ?_))); exact In.self _)))⟩
    · rw [cmpN_gt h]
      go_enter Tryz.func127, Tryz.ntmps127
      go_wp2_with fail
      go_ret
      exact ⟨rfl, by (refine In.bel ?_; (repeat (first | (refine In.setCell ?_ (by first | omega | (simp; done) | (simp; omega)) _) | (refine In.alloc ?_ _) | (refine In.drew ?_))); (first | exact In.self _ | (refine In.out h ?_ (by first | omega | (simp; done) | (simp; omega)); (repeat (first | (refine In.setCell ?_ (by first | omega | (simp; done) | (simp; omega)) _) | (refine In.alloc ?_ _) | (refine In.drew ?_))); exact In.self _)))⟩
  · have e1 : (bg m).toList.isEmpty = true → (bg n).toList.isEmpty = false := fun h => by
      have h1 : m < 18446744073709551616 := (bg_small_iff m).1 (List.isEmpty_iff.1 h)
      have : ¬ (bg n).toList = [] := fun e => hs ⟨h1, (bg_small_iff n).1 e⟩
      cases he : (bg n).toList with
      | nil => exact absurd he this
      | cons _ _ => rfl
    clear hs
    have h0 := In.self ((w.alloc (.cells #[.int .u64 (lo m), .string (bg m)] 50)).alloc (.cells #[.int .u64 (lo n), .string (bg n)] 50))
    simp only [World.size_alloc] at h0
    cases he : (bg m).toList.isEmpty with
    | true =>
      have e2 := e1 he
      clear e1
      go_enter Tryz.func127, Tryz.ntmps127
      go_wp2_with fail
      refine wp_region_mix (In (w.heap.size + 1 + 1) ((w.alloc (.cells #[.int .u64 (lo m), .string (bg m)] 50)).alloc (.cells #[.int .u64 (lo n), .string (bg n)] 50))) [(0, true), (2, true), (1, false), (3, false), (4, false), (5, true)] (by kernel_rfl) (by kernel_rfl) (by kernel_rfl) (by kernel_rfl) (fun _ _ d _ _ h => by cases d <;> exact h) ?_ ?_
      · exact h0.drew
      repeat (apply mix_take; (focus rfl); (focus rfl); (focus (intro w' hw'; have hc := hw'.cell; go_simp; exact rfl)); (try simp only [Act.put]); (try simp only [List.setIfInBounds_toArray]); (try simp only [List.set]))
      (apply mix_run; (focus rfl); (focus rfl); intro K hK; go_simp)
      refine (words_any m hm _).mono ?_
      rintro e w1 ⟨b1, xs, rfl, hx, hx1, hx2, hx3, hx4, hx5, hb1⟩
      have h1 := h0.drew.call hb1
      (refine hK _ _ (h1) ?_; clear hK K; (try simp only [Act.put]); (try simp only [List.setIfInBounds_toArray]); (try simp only [List.set]))
      (apply mix_run; (focus rfl); (focus rfl); intro K hK; go_simp)
      refine (words_any n hn _).mono ?_
      rintro e w2 ⟨b2, ys, rfl, hy, hy1, hy2, hy3, hy4, hy5, hb2⟩
      have h2 := h1.call hb2
      (refine hK _ _ (h2) ?_; clear hK K; (try simp only [Act.put]); (try simp only [List.setIfInBounds_toArray]); (try simp only [List.set]))
      (apply mix_run; (focus rfl); (focus rfl); intro K hK; go_simp)
      refine (cmp_any w2 b1 b2 _ _ _ _ m n xs ys (hx.call hb2) hy hx1 hy1 hx2 hy2 hm hn).mono ?_
      rintro e w3 ⟨rfl, hb3⟩
      have h := h2.call hb3
      (refine hK _ _ (h) ?_; clear hK K; (try simp only [Act.put]); (try simp only [List.setIfInBounds_toArray]); (try simp only [List.set]))
      repeat (apply mix_take; (focus rfl); (focus rfl); (focus (intro w' hw'; go_simp; exact rfl)); (try simp only [Act.put]); (try simp only [List.setIfInBounds_toArray]); (try simp only [List.set]))
      clear hx hx1 hx2 hx3 hx4 hx5 hy hy1 hy2 hy3 hy4 hy5 hb1 hb2 hb3
      refine mix_done ?_
      go_wp2_with fail
      go_ret
      exact ⟨rfl, by (refine In.bel ?_; (repeat (first | (refine In.setCell ?_ (by first | omega | (simp; done) | (simp; omega)) _) | (refine In.alloc ?_ _) | (refine In.drew ?_))); (first | exact In.self _ | (refine In.out h ?_ (by first | omega | (simp; done) | (simp; omega)); (repeat (first | (refine In.setCell ?_ (by first | omega | (simp; done) | (simp; omega)) _) | (refine In.alloc ?_ _) | (refine In.drew ?_))); exact In.self _)))⟩
    | false =>
      clear e1
      go_enter Tryz.func127, Tryz.ntmps127
      go_wp2_with fail
      refine wp_region_mix (In (w.heap.size + 1 + 1) ((w.alloc (.cells #[.int .u64 (lo m), .string (bg m)] 50)).alloc (.cells #[.int .u64 (lo n), .string (bg n)] 50))) [(0, true), (2, true), (1, false), (3, false), (4, false), (5, true)] (by kernel_rfl) (by kernel_rfl) (by kernel_rfl) (by kernel_rfl) (fun _ _ d _ _ h => by cases d <;> exact h) ?_ ?_
      · exact h0.drew
      repeat (apply mix_take; (focus rfl); (focus rfl); (focus (intro w' hw'; have hc := hw'.cell; go_simp; exact rfl)); (try simp only [Act.put]); (try simp only [List.setIfInBounds_toArray]); (try simp only [List.set]))
      (apply mix_run; (focus rfl); (focus rfl); intro K hK; go_simp)
      refine (words_any m hm _).mono ?_
      rintro e w1 ⟨b1, xs, rfl, hx, hx1, hx2, hx3, hx4, hx5, hb1⟩
      have h1 := h0.drew.call hb1
      (refine hK _ _ (h1) ?_; clear hK K; (try simp only [Act.put]); (try simp only [List.setIfInBounds_toArray]); (try simp only [List.set]))
      (apply mix_run; (focus rfl); (focus rfl); intro K hK; go_simp)
      refine (words_any n hn _).mono ?_
      rintro e w2 ⟨b2, ys, rfl, hy, hy1, hy2, hy3, hy4, hy5, hb2⟩
      have h2 := h1.call hb2
      (refine hK _ _ (h2) ?_; clear hK K; (try simp only [Act.put]); (try simp only [List.setIfInBounds_toArray]); (try simp only [List.set]))
      (apply mix_run; (focus rfl); (focus rfl); intro K hK; go_simp)
      refine (cmp_any w2 b1 b2 _ _ _ _ m n xs ys (hx.call hb2) hy hx1 hy1 hx2 hy2 hm hn).mono ?_
      rintro e w3 ⟨rfl, hb3⟩
      have h := h2.call hb3
      (refine hK _ _ (h) ?_; clear hK K; (try simp only [Act.put]); (try simp only [List.setIfInBounds_toArray]); (try simp only [List.set]))
      repeat (apply mix_take; (focus rfl); (focus rfl); (focus (intro w' hw'; go_simp; exact rfl)); (try simp only [Act.put]); (try simp only [List.setIfInBounds_toArray]); (try simp only [List.set]))
      clear hx hx1 hx2 hx3 hx4 hx5 hy hy1 hy2 hy3 hy4 hy5 hb1 hb2 hb3
      refine mix_done ?_
      go_wp2_with fail
      go_ret
      exact ⟨rfl, by (refine In.bel ?_; (repeat (first | (refine In.setCell ?_ (by first | omega | (simp; done) | (simp; omega)) _) | (refine In.alloc ?_ _) | (refine In.drew ?_))); (first | exact In.self _ | (refine In.out h ?_ (by first | omega | (simp; done) | (simp; omega)); (repeat (first | (refine In.setCell ?_ (by first | omega | (simp; done) | (simp; omega)) _) | (refine In.alloc ?_ _) | (refine In.drew ?_))); exact In.self _)))⟩
end Gus
