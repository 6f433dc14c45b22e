import Derived.Test.YtjbclomfocnplaaGreatDoorNatF
/- Products of numbers. -/
namespace Gus
open Go Go.RowKit Go.Proofs
theorem val_set : ∀ (l : List Nat) (i d : Nat), i < l.length → val (l.set i d) + 4294967296 ^ i * l.getD i 0 = val l + 4294967296 ^ i * d
  | [], i, d, h => by simp at h
  | e :: l, 0, d, _ => by simp [val]; omega
  | e :: l, i + 1, d, h => by
    have := val_set l i d (by simpa using h)
    simp only [List.set_cons_succ, val, List.getD_cons_succ, Nat.pow_succ]
    generalize val (l.set i d) = a at *
    generalize val l = b at *
    generalize l.getD i 0 = x at *
    have e1 : 4294967296 ^ i * 4294967296 * x = 4294967296 * (4294967296 ^ i * x) := by rw [Nat.mul_comm (4294967296 ^ i), Nat.mul_assoc]
    have e2 : 4294967296 ^ i * 4294967296 * d = 4294967296 * (4294967296 ^ i * d) := by rw [Nat.mul_comm (4294967296 ^ i), Nat.mul_assoc]
    rw [e1, e2]
    generalize 4294967296 ^ i * x = X at *
    generalize 4294967296 ^ i * d = Y at *
    omega
theorem val_replicate (n : Nat) : val (List.replicate n 0) = 0 := by
  induction n with
  | zero => rfl
  | succ n ih => rw [List.replicate_succ, val, ih]
theorem digs_replicate (n : Nat) : Digs (List.replicate n 0) := fun d h => by rw [(List.mem_replicate.1 h).2]; decide
theorem set_getD (l : List Nat) (i j d : Nat) (h : i ≠ j) : (l.set i d).getD j 0 = l.getD j 0 := by
  rw [List.getD_eq_getElem?_getD, List.getD_eq_getElem?_getD, List.getElem?_set_ne h]
/-- one digit of the inner loop -/
theorem mul_step {a b t T K x y V c o s a' : Nat} (ht : t = T * K) (h : a + t * c = b + T * (x * V)) (hs : s = c + (x * y + o)) (ha : a' + t * o = a + t * (s % 4294967296)) : a' + t * 4294967296 * (s / 4294967296) = b + T * (x * (V + K * y)) := by
  have := Nat.div_add_mod s 4294967296
  generalize s / 4294967296 = q at *
  generalize s % 4294967296 = r at *
  have e : t * (4294967296 * q + r) = t * (c + (x * y + o)) := by rw [this, hs]
  subst ht
  grind
theorem mul_row {a b t T x V W n c a' : Nat} (h : a + t * c = b + T * (x * n)) (ha : a' = a + t * c) (hb : b = V * n) (hW : W = V + T * x) : a' = W * n := by
  subst ha; rw [h, hb, hW, Nat.add_mul, Nat.mul_assoc]
set_option maxRecDepth 100000 in
set_option maxHeartbeats 1000000 in
theorem mul_small (m n : Nat) (h1 : m < 18446744073709551616) (h2 : n < 18446744073709551616) (w : World) :
    Calls Tryz.prog 85 #[.agg #[.int .u64 m, .string ⟨#[]⟩], .agg #[.int .u64 n, .string ⟨#[]⟩]] w fun e w' => e = .returned (natV (m * n)) ∧ Below w.heap.size w w' := by
  have hM := fun w => Tryz.bits_Mul64 m n h1 h2 w
  obtain ⟨H, hH⟩ : ∃ H, H = m * n / 18446744073709551616 := ⟨_, rfl⟩
  obtain ⟨W, hW⟩ : ∃ W, W = m * n % 18446744073709551616 := ⟨_, rfl⟩
  have hH1 : H < 18446744073709551616 := by
    rw [hH]; apply Nat.div_lt_of_lt_mul
    exact Nat.mul_lt_mul_of_lt_of_le h1 (Nat.le_of_lt h2) (by omega)
  have hW1 : W < 18446744073709551616 := by rw [hW]; exact Nat.mod_lt _ (by decide)
  have hsum : W + 18446744073709551616 * H = m * n := by rw [hH, hW]; exact Nat.mod_add_div _ _
  rw [← hH, ← hW] at hM
  have HS := Lib.hid hsum
  have HM := Lib.hid hM
  clear hH hW hsum hM
  have hd : Digs [W % 4294967296, W / 4294967296, H % 4294967296, H / 4294967296] := .cons (by omega) (.cons (by omega) (.cons (by omega) (.cons (by omega) .nil)))
  have hv : val ([W % 4294967296, W / 4294967296, H % 4294967296, H / 4294967296].take 4) = m * n := by
    rw [← HS.out]; simp [val]; omega
  have HD := Lib.hid hd
  have HV := Lib.hid hv
  clear hd hv
  go_enter Tryz.func85, Tryz.ntmps85
  go_wp2_with fail
  refine (HM.out _).mono ?_
  rintro e w' ⟨rfl, rfl⟩
  go_wp2_with fail
  have hof : ∀ (w : World) (g : Nat) (cs : Array Value), g = w.heap.size → cs = ([W % 4294967296, W / 4294967296, H % 4294967296, H / 4294967296].map u32v).toArray → Calls Tryz.prog 170 #[.slice (some ⟨g, 0, none⟩) 4 4] (w.alloc (.cells cs 80 (0, 0))) fun e w' => e = .returned (natV (m * n)) ∧ Below (w.alloc (.cells cs 80 (0, 0))).heap.size (w.alloc (.cells cs 80 (0, 0))) w' := by
    rintro w g cs rfl hcs
    have := of_any _ w.heap.size 4 4 [W % 4294967296, W / 4294967296, H % 4294967296, H / 4294967296] (Blk.new w cs hcs) HD.out (Nat.le_refl _) (by decide) (by decide) (by decide)
    rwa [HV.out] at this
  refine (hof _ _ _ (by simp only [World.size_alloc]) (by simp [u32v])).mono ?_
  rintro e w' ⟨rfl, hb⟩
  have h := (In.self _).call hb
  simp only [World.size_alloc] at h
  have hc := h.cell
  have hf := h.frozen
  clear hb
  go_wp2_with fail
  exact bodyPost_ret (v := natV (m * n)) (by simp [results, Tryz.results85, go_sem, *]) rfl ⟨rfl, by (refine In.bel ?_; (repeat (first | (refine In.setCell ?_ (by first | omega | (simp; done) | (simp; omega)) _) | (refine In.alloc ?_ _) | (refine In.drew ?_))); (first | exact In.self _ | (refine In.out h ?_ (by first | omega | (simp; done) | (simp; omega)); (repeat (first | (refine In.setCell ?_ (by first | omega | (simp; done) | (simp; omega)) _) | (refine In.alloc ?_ _) | (refine In.drew ?_))); exact In.self _)))⟩
set_option maxRecDepth 100000 in
set_option maxHeartbeats 4000000 in
theorem mul_big (m n : Nat) (hb : ¬ (m < 18446744073709551616 ∧ n < 18446744073709551616)) (hm : (wd m).length ≤ 549755813888) (hn : (wd n).length ≤ 549755813888) (w : World) :
    Calls Tryz.prog 85 #[natV m, natV n] w fun e w' => e = .returned (natV (m * n)) ∧ Below w.heap.size w w' := by
  have he1 := smallB_eq m
  have he2 := smallB_eq n
  have hsb : (smallB m && smallB n) = false := by
    cases h1 : smallB m with
    | false => rfl
    | true =>
      cases h2 : smallB n with
      | false => rfl
      | true => exact absurd ⟨of_decide_eq_true h1, of_decide_eq_true h2⟩ hb
  obtain ⟨W0, hW0⟩ : ∃ W0, W0 = ((w.alloc (.cells #[.int .u64 (lo m), .string (bg m)] 46)).alloc (.cells #[.int .u64 (lo n), .string (bg n)] 46)).alloc (.cells #[.int .u64 0, .string ⟨#[]⟩] 46) := ⟨_, rfl⟩
  have HW := Lib.hid hW0
  clear hW0 hb
  go_enter Tryz.func85, Tryz.ntmps85
  go_upto_region 1 with fail
  rw [← HW.out]
  go_cut [22] (fun s wx => s = .bool false ∧ W0 = wx)
  case first =>
    as_aux_lemma =>
      have c0 : W0.cell? ⟨w.heap.size, 1, none⟩ = some (.string (bg m)) := by rw [HW.out]; simp [go_sem]
      have c1 : W0.cell? ⟨w.heap.size + 1, 1, none⟩ = some (.string (bg n)) := by rw [HW.out]; simp [go_sem]
      cases hs : smallB m with
      | true => rw [hs] at he1 hsb; simp only [Bool.true_and] at hsb; rw [hsb] at he2; go_wp2_with fail; go_meet; exact ⟨rfl, rfl⟩
      | false => rw [hs] at he1; go_wp2_with fail; go_meet; exact ⟨rfl, rfl⟩
  case rest =>
    as_aux_lemma =>
      obtain ⟨rfl, rfl⟩ := hcut
      have c0 : W0.cell? ⟨w.heap.size, 0, none⟩ = some (.int .u64 (lo m)) := by rw [HW.out]; simp [go_sem]
      have c1 : W0.cell? ⟨w.heap.size, 1, none⟩ = some (.string (bg m)) := by rw [HW.out]; simp [go_sem]
      have c2 : W0.cell? ⟨w.heap.size + 1, 0, none⟩ = some (.int .u64 (lo n)) := by rw [HW.out]; simp [go_sem]
      have c3 : W0.cell? ⟨w.heap.size + 1, 1, none⟩ = some (.string (bg n)) := by rw [HW.out]; simp [go_sem]
      have c4 : W0.cell? ⟨w.heap.size + 1 + 1, 0, none⟩ = some (.int .u64 0) := by rw [HW.out]; simp [go_sem]
      have c5 : W0.cell? ⟨w.heap.size + 1 + 1, 1, none⟩ = some (.string ⟨#[]⟩) := by rw [HW.out]; simp [go_sem]
      have f4 : W0.frozen? ⟨w.heap.size + 1 + 1, 0, none⟩ = false := by rw [HW.out]; simp [go_sem]
      have f5 : W0.frozen? ⟨w.heap.size + 1 + 1, 1, none⟩ = false := by rw [HW.out]; simp [go_sem]
      have hin : In w.heap.size w W0 := by rw [HW.out]; exact (((In.self w).alloc _).alloc _).alloc _
      have h0 : In (w.heap.size + 1 + 1 + 1) W0 W0 := by have := In.self W0; rw [HW.out, World.size_alloc, World.size_alloc, World.size_alloc, ← HW.out] at this; exact this
      have HIN := Lib.hid hin
      clear hin
      go_upto_region 4 with fail
      refine wp_region_mix (In (w.heap.size + 1 + 1 + 1) W0) [(0, true), (2, true), (1, false), (3, false), (4, true), (5, true)] (by kernel_rfl) (by kernel_rfl) (by kernel_rfl) (by kernel_rfl) (fun _ _ d _ _ h => by cases d <;> exact h) ?_ ?_
      · exact h0.drew
      repeat (apply mix_take; (focus rfl); (focus rfl); (focus (intro w' hw'; have hc := hw'.cell; go_simp; exact rfl)); (try simp only [Act.put]); (try simp only [List.setIfInBounds_toArray]); (try simp only [List.set]))
      (apply mix_run; (focus rfl); (focus rfl); intro K hK; go_simp)
      refine (words_any m (by omega) _).mono ?_
      rintro e w1 ⟨b1, xs, rfl, hx, hx1, hx2, hx3, hx4, hx5, hb1⟩
      have h1 := h0.drew.call hb1
      have A1 : WordsAt w1 b1 xs m := ⟨hx, hx1, hx2, hx3, hx4⟩
      clear hx hx1 hx2 hx3 hx4 hx5 hb1
      (refine hK _ _ (h1) ?_; clear hK K; (try simp only [Act.put]); (try simp only [List.setIfInBounds_toArray]); (try simp only [List.set]))
      (apply mix_run; (focus rfl); (focus rfl); intro K hK; go_simp)
      refine (words_any n (by omega) _).mono ?_
      rintro e w2 ⟨b2, ys, rfl, hy, hy1, hy2, hy3, hy4, hy5, hb2⟩
      have h2 := h1.call hb2
      have A2 : WordsAt w2 b2 ys n := ⟨hy, hy1, hy2, hy3, hy4⟩
      replace A1 := A1.call hb2
      clear hy hy1 hy2 hy3 hy4 hy5 hb2 h1
      (refine hK _ _ (h2) ?_; clear hK K; (try simp only [Act.put]); (try simp only [List.setIfInBounds_toArray]); (try simp only [List.set]))
      repeat (apply mix_take; (focus rfl); (focus rfl); (focus (intro w' hw'; go_simp; exact rfl)); (try simp only [Act.put]); (try simp only [List.setIfInBounds_toArray]); (try simp only [List.set]))
      refine mix_done ?_
      obtain ⟨L, hL⟩ : ∃ L, L = (wd m).length := ⟨_, rfl⟩
      obtain ⟨M, hM⟩ : ∃ M, M = (wd n).length := ⟨_, rfl⟩
      rw [← hL] at hm ⊢
      rw [← hM] at hn ⊢
      have HL := Lib.hid hL
      have HM := Lib.hid hM
      clear hL hM
      have hmk := mk_u32 (L + M) (by omega)
      rw [show (((L + M : Nat)) : Int) = (L : Int) + M by omega] at hmk
      go_upto_region 6 with fail
      obtain ⟨g, hg⟩ : ∃ g, g = w2.heap.size := ⟨_, rfl⟩
      rw [← hg]
      have hB3 := Blk.made w2 (L + M)
      rw [← hg] at hB3
      have A3 := A1.call (Below.refl w2.heap.size w2 |>.alloc (Nat.le_refl _) (.cells (zrow (L + M)) 80))
      have A4 := A2.call (Below.refl w2.heap.size w2 |>.alloc (Nat.le_refl _) (.cells (zrow (L + M)) 80))
      have hI3 := h2.alloc (.cells (zrow (L + M)) 80)
      have hne1 : g ≠ b1 := by have := A1.blk.lt; omega
      have hne2 : g ≠ b2 := by have := A2.blk.lt; omega
      have hN : w.heap.size + 1 + 1 + 1 ≤ g := by rw [hg]; exact h2.siz
      clear hg hmk A1 A2 h2
      generalize w2.alloc (.cells (zrow (L + M)) 80) = w3 at *
      go_wp2
      go_loopw [55] (fun v55 wr => ∃ i zs, i ≤ L ∧ v55 = .int .i64 (i : Nat) ∧ zs.length = L + M ∧ Digs zs ∧ Blk wr g zs ∧ WordsAt wr b1 xs m ∧ WordsAt wr b2 ys n ∧ In (w.heap.size + 1 + 1 + 1) W0 wr ∧
        val zs = val ((wd m).take i) * n ∧ ∀ j, i + M ≤ j → zs.getD j 0 = 0) (fun v55 _ => L - (intOf v55).toNat)
      case atStart => exact ⟨0, List.replicate (L + M) 0, Nat.zero_le _, rfl, List.length_replicate, digs_replicate _, hB3, A3, A4, hI3, by simp [val, val_replicate], fun j _ => by simp [List.getD_eq_getElem?_getD, List.getElem?_replicate]; split <;> rfl⟩
      case round =>
        as_aux_lemma =>
          obtain ⟨i, zs, hi, rfl, hz, hdz, hblk, A1, A2, hI, hv, hj0⟩ := hrel
          have HV := Lib.hid hv
          have HZ := Lib.hid hz
          clear hv hz
          by_cases hlt : i < L
          · obtain ⟨x, hx⟩ : ∃ x, x = (wd m).getD i 0 := ⟨_, rfl⟩
            have hxl : x < 4294967296 := by rw [hx]; exact (wd_digs m).getD i
            have hcx : wr.cell? ⟨b1, i, none⟩ = some (.int .u32 (x : Nat)) := by
              have := A1.blk.cell (i := i) (by have := A1.le; rw [← HL.out] at this; omega)
              rw [← getD_take (l := xs) (k := (wd m).length) (by rw [← HL.out]; exact hlt), A1.tk, ← hx] at this
              exact this
            have HX := Lib.hid hx
            clear hx
            have hle1 : L ≤ xs.length := by have := A1.le; rw [← HL.out] at this; exact this
            go_upto_region 10 with fail
            go_wp2
            go_loopw [12, 62] (fun v12 v62 wi => ∃ k c zi, k ≤ M ∧ v62 = .int .i64 (k : Nat) ∧ v12 = .int .u64 (c : Nat) ∧ c < 4294967296 ∧ zi.length = L + M ∧ Digs zi ∧ Blk wi g zi ∧ WordsAt wi b1 xs m ∧ WordsAt wi b2 ys n ∧ In (w.heap.size + 1 + 1 + 1) W0 wi ∧
              val zi + 4294967296 ^ (i + k) * c = val zs + 4294967296 ^ i * (x * val ((wd n).take k)) ∧ ∀ j, i + M ≤ j → zi.getD j 0 = 0) (fun _ v62 _ => M - (intOf v62).toNat)
            case atStart => exact ⟨0, 0, zs, Nat.zero_le _, rfl, rfl, by decide, HZ.out, hdz, hblk, A1, A2, hI, by simp [val], hj0⟩
            case round =>
              as_aux_lemma =>
                clear hblk A1 A2 hI hdz hj0 hcx hB3 A3 A4 hI3
                obtain ⟨k, c, zi, hk, rfl, rfl, hcl, hzi, hdi, hblk, A1, A2, hI, hvi, hji⟩ := hrel
                have HVI := Lib.hid hvi
                have HZI := Lib.hid hzi
                have HJI := Lib.hid hji
                clear hvi hzi hji
                by_cases hlk : k < M
                · obtain ⟨y, hy⟩ : ∃ y, y = (wd n).getD k 0 := ⟨_, rfl⟩
                  have hyl : y < 4294967296 := by rw [hy]; exact (wd_digs n).getD k
                  have hcy : wr.cell? ⟨b2, k, none⟩ = some (.int .u32 (y : Nat)) := by
                    have := A2.blk.cell (i := k) (by have := A2.le; rw [← HM.out] at this; omega)
                    rw [← getD_take (l := ys) (k := (wd n).length) (by rw [← HM.out]; exact hlk), A2.tk, ← hy] at this
                    exact this
                  obtain ⟨o, ho⟩ : ∃ o, o = zi.getD (i + k) 0 := ⟨_, rfl⟩
                  have hol : o < 4294967296 := by rw [ho]; exact hdi.getD _
                  have hco := hblk.cell (i := i + k) (by rw [HZI.out]; omega)
                  rw [← ho] at hco
                  have hfo := hblk.frozen (i + k)
                  have hle2 : M ≤ ys.length := by have := A2.le; rw [← HM.out] at this; exact this
                  have hxy : x * y ≤ 18446744065119617025 := Nat.mul_le_mul (show x ≤ 4294967295 by omega) (show y ≤ 4294967295 by omega)
                  obtain ⟨s, hs⟩ : ∃ s, s = c + (x * y + o) := ⟨_, rfl⟩
                  have hsl : s < 18446744073709551616 := by omega
                  have hsI : (s : Int) = (c : Int) + ((x : Int) * y + o) := by rw [hs]; push_cast; rfl
                  have hxyI : (0 : Int) ≤ (x : Int) * y ∧ (x : Int) * y ≤ 18446744065119617025 := by
                    have : ((x * y : Nat) : Int) = (x : Int) * y := by push_cast; rfl
                    omega
                  obtain ⟨hxy0, hxy1⟩ := hxyI
                  have hst := mul_step (K := 4294967296 ^ k) (Nat.pow_add _ i k) HVI.out hs (a' := val (zi.set (i + k) (s % 4294967296))) (by rw [ho]; exact val_set zi (i + k) _ (by rw [HZI.out]; omega))
                  rw [hy, ← val_take_succ, ← Nat.pow_succ] at hst
                  have HS := Lib.hid hst
                  have HSI := Lib.hid hsI
                  have HY := Lib.hid hy
                  have HO := Lib.hid ho
                  have hB' := Lib.hid (hblk.set (i + k) (s % 4294967296))
                  have hoff : (0 : Int) ≤ (i : Int) + k ∧ (i : Int) + k < L + M := by omega
                  have hof2 : ((i : Int) + k).toNat = i + k := by omega
                  clear hst hsI hy ho hs hxy
                  go_wp2_with fail
                  rw [← HSI.out]
                  refine ⟨⟨k + 1, s / 4294967296, zi.set (i + k) (s % 4294967296), hlk, by go_num, by go_num, by omega, by rw [List.length_set, HZI.out], hdi.set _ _ (Nat.mod_lt _ (by decide)), ?_, A1.other hne1 _, A2.other hne2 _, hI.setCell hN _, HS.out, ?_⟩, by simp [intOf]; omega⟩
                  · have := hB'.out
                    rw [show (((s % 4294967296 : Nat)) : Int) = (s : Int) % 4294967296 by omega] at this
                    exact this
                  · intro j hj
                    rw [set_getD _ _ _ _ (by omega)]
                    exact HJI.out j hj
                · have hkM : k = M := by omega
                  have hvM : val zi + 4294967296 ^ (i + M) * c = val zs + 4294967296 ^ i * (x * n) := by
                    have := HVI.out
                    rw [hkM, List.take_of_length_le (by have := HM.out; omega), wd_val] at this
                    exact this
                  have hfo := hblk.frozen (i + M)
                  have hco := hblk.cell (i := i + M) (by rw [HZI.out]; omega)
                  have hst := mul_row (a' := val (zi.set (i + M) c)) (W := val ((wd m).take (i + 1))) hvM (by have := val_set zi (i + M) c (by rw [HZI.out]; omega); rw [HJI.out _ (Nat.le_refl _)] at this; omega) HV.out (by rw [val_take_succ, ← HX.out])
                  have HS := Lib.hid hst
                  have hB' := Lib.hid (hblk.set (i + M) c)
                  have hoff : (0 : Int) ≤ (i : Int) + M ∧ (i : Int) + M < L + M := by omega
                  have hof2 : ((i : Int) + M).toNat = i + M := by omega
                  have hcm : (c : Int) % 4294967296 = c := by omega
                  clear hst hkM hvM
                  go_wp2_with fail
                  exact ⟨⟨i + 1, zi.set (i + M) c, hlt, by go_num, by rw [List.length_set, HZI.out], hdi.set _ _ hcl, hB'.out, A1.other hne1 _, A2.other hne2 _, hI.setCell hN _, HS.out, fun j hj => by rw [set_getD _ _ _ _ (by omega)]; exact HJI.out j (by omega)⟩, by simp [intOf]; omega⟩
          · have hiL : i = L := by omega
            have hval : val zs = m * n := by
              have := HV.out
              rw [hiL, List.take_of_length_le (by have := HL.out; omega), wd_val] at this
              exact this
            have hof := of_any wr g (L + M) (L + M) zs hblk hdz (by have := HZ.out; omega) (Nat.le_refl _) (by omega) (by omega)
            rw [List.take_of_length_le (by have := HZ.out; omega), hval] at hof
            have HOF := Lib.hid hof
            have HN := Lib.hid hN
            clear hiL hval hof hblk A1 A2 hB3 A3 A4 hI3 hN hj0
            go_wp2_with fail
            refine HOF.out.mono ?_
            rintro e w' ⟨rfl, hb⟩
            have h := hI.call hb
            have hc' := h.cell
            have hf' := h.frozen
            clear hb hI
            go_wp2_with fail
            exact bodyPost_ret (v := natV (m * n)) (by simp [results, Tryz.results85, go_sem, hc', c4, c5]) rfl ⟨rfl, (((HIN.out.trans (h.mono (by omega))).setCell (by simp; omega) _).setCell (by simp; omega) _).bel⟩
theorem mul_any (m n : Nat) (hm : (wd m).length ≤ 549755813888) (hn : (wd n).length ≤ 549755813888) (w : World) :
    Calls Tryz.prog 85 #[natV m, natV n] w fun e w' => e = .returned (natV (m * n)) ∧ Below w.heap.size w w' := by
  by_cases h : m < 18446744073709551616 ∧ n < 18446744073709551616
  · have := mul_small m n h.1 h.2 w
    rw [show natV m = .agg #[.int .u64 m, .string ⟨#[]⟩] by rw [natV, lo_small h.1, bg_small h.1]; rfl, show natV n = .agg #[.int .u64 n, .string ⟨#[]⟩] by rw [natV, lo_small h.2, bg_small h.2]; rfl]
    exact this
  · exact mul_big m n h hm hn w
end Gus
