import Derived.Test.YtjbclomfocnplaaGreatDoorNatL
import Derived.RegionTactic
/- Quotient and remainder of numbers. -/
namespace Gus
open Go Go.RowKit Go.Proofs
set_option maxRecDepth 100000 in
set_option maxHeartbeats 400000 in
theorem div_zero (m : Nat) (w : World) :
    Calls Tryz.prog 165 #[natV m, natV 0] w fun e w' => e = .returned (.tuple #[natV 0, natV 0, .bool false]) ∧ Below w.heap.size w w' := by
  go_enter Tryz.func165, Tryz.ntmps165
  go_wp2_with fail
  (refine (zero_any 0 _).mono ?_; rintro e w' ⟨rfl, hb⟩; have h := (In.self _).call hb; (try simp only [World.size_alloc] at h); (try simp only [World.size_setCell] at h); clear hb; have hc := h.cell; have hf := h.frozen)
  go_wp2_with fail
  exact bodyPost_ret (v := .tuple #[.agg #[.int .u64 0, .string ⟨#[]⟩], .agg #[.int .u64 0, .string ⟨#[]⟩], .bool false]) (by simp [results, Tryz.results165, go_sem, hc]) rfl ⟨rfl, by (refine In.bel ?_; (repeat (first | (refine In.setCell ?_ (by first | omega | (simp; done) | (simp; omega)) _) | (refine In.alloc ?_ _) | (refine In.drew ?_))); (first | exact In.self _ | (refine In.out h ?_ (by first | omega | (simp; done) | (simp; omega)); (repeat (first | (refine In.setCell ?_ (by first | omega | (simp; done) | (simp; omega)) _) | (refine In.alloc ?_ _) | (refine In.drew ?_))); exact In.self _)))⟩
set_option maxRecDepth 100000 in
set_option maxHeartbeats 400000 in
theorem div_lt (m n : Nat) (hmn : m < n) (hm : (wd m).length ≤ 549755813888) (hn : (wd n).length ≤ 549755813888) (w : World) :
    Calls Tryz.prog 165 #[natV m, natV n] w fun e w' => e = .returned (.tuple #[natV 0, natV m, .bool true]) ∧ Below w.heap.size w w' := by
  have hq := cmpN_lt hmn
  have hn0 : ¬ n = 0 := by omega
  go_enter Tryz.func165, Tryz.ntmps165
  go_wp2_with fail
  (refine (zero_any n _).mono ?_; rintro e w' ⟨rfl, hb⟩; have h := (In.self _).call hb; (try simp only [World.size_alloc] at h); (try simp only [World.size_setCell] at h); clear hb; have hc := h.cell; have hf := h.frozen)
  go_wp2_with fail
  (refine (Cmp_any m n (by omega) (by omega) _).mono ?_; rintro e w' ⟨rfl, hb⟩; replace h := In.call (by first | exact h | exact h.drew | exact h.alloc _ | exact (h.alloc _).alloc _ | exact ((h.alloc _).alloc _).alloc _) hb; clear hb hc hf; have hc := h.cell; have hf := h.frozen)
  go_wp2_with fail
  go_region
  go_wp2_with fail
  exact bodyPost_ret (v := .tuple #[.agg #[.int .u64 0, .string ⟨#[]⟩], .agg #[.int .u64 (lo m), .string (bg m)], .bool true]) (by simp [results, Tryz.results165, go_sem, hc]) rfl ⟨rfl, by (refine In.bel ?_; (repeat (first | (refine In.setCell ?_ (by first | omega | (simp; done) | (simp; omega)) _) | (refine In.alloc ?_ _) | (refine In.drew ?_))); (first | exact In.self _ | (refine In.out h ?_ (by first | omega | (simp; done) | (simp; omega)); (repeat (first | (refine In.setCell ?_ (by first | omega | (simp; done) | (simp; omega)) _) | (refine In.alloc ?_ _) | (refine In.drew ?_))); exact In.self _)))⟩
set_option maxRecDepth 100000 in
set_option maxHeartbeats 400000 in
theorem div_small (m n : Nat) (hn0 : ¬ n = 0) (hmn : n ≤ m) (hs : m < 18446744073709551616) (w : World) :
    Calls Tryz.prog 165 #[natV m, natV n] w fun e w' => e = .returned (.tuple #[natV (m / n), natV (m % n), .bool true]) ∧ Below w.heap.size w w' := by
  have hwl : ∀ k, k < 18446744073709551616 → (wd k).length ≤ 2 := fun k hk => wd_length (by simpa using hk)
  have hw1 := hwl m hs
  have hw2 := hwl n (by omega)
  clear hwl
  have hcn : ¬ cmpN m n < 0 := fun h => by have := (cmpN_neg m n).1 h; omega
  have hC := Cmp_any m n (by omega) (by omega)
  have hZ := zero_any n
  obtain ⟨q, hq⟩ : ∃ q, q = m / n := ⟨_, rfl⟩
  obtain ⟨r, hr⟩ : ∃ r, r = m % n := ⟨_, rfl⟩
  have hqI : (m : Int) / n = q := by rw [hq]; exact (Int.natCast_ediv m n).symm
  have hrI : (m : Int) % n = r := by rw [hr]; exact (Int.natCast_emod m n).symm
  have hql : q ≤ m := by rw [hq]; exact Nat.div_le_self m n
  have hrl : r ≤ m := by rw [hr]; exact Nat.mod_le m n
  rw [← hq, ← hr]
  have hw3 : IntKind.u64.wrap (q : Int) = q := by simp [IntKind.wrap, IntKind.bits, IntKind.signed]; omega
  have e1 : natV q = .agg #[.int .u64 (q : Int), .string ⟨#[]⟩] := by rw [natV, lo_small (by omega), bg_small (by omega)]; rfl
  have e2 : natV r = .agg #[.int .u64 (r : Int), .string ⟨#[]⟩] := by rw [natV, lo_small (by omega), bg_small (by omega)]; rfl
  have e3 : natV m = .agg #[.int .u64 (m : Int), .string ⟨#[]⟩] := by rw [natV, lo_small (by omega), bg_small (by omega)]; rfl
  have e4 : natV n = .agg #[.int .u64 (n : Int), .string ⟨#[]⟩] := by rw [natV, lo_small (by omega), bg_small (by omega)]; rfl
  rw [e1, e2, e3, e4]
  rw [e3, e4] at hC
  rw [e4] at hZ
  clear e1 e2 e3 e4 hq hr
  have hn1 : ¬ (n : Int) = 0 := by omega
  go_enter Tryz.func165, Tryz.ntmps165
  go_wp2_with fail
  (refine (hZ _).mono ?_; rintro e w' ⟨rfl, hb⟩; have h := (In.self _).call hb; (try simp only [World.size_alloc] at h); (try simp only [World.size_setCell] at h); clear hb; have hc := h.cell; have hf := h.frozen)
  go_wp2_with fail
  (refine (hC _).mono ?_; rintro e w' ⟨rfl, hb⟩; replace h := In.call (by first | exact h | exact h.drew | exact h.alloc _ | exact (h.alloc _).alloc _ | exact ((h.alloc _).alloc _).alloc _) hb; clear hb hc hf; have hc := h.cell; have hf := h.frozen)
  go_wp2_with fail
  go_region
  go_wp2_with fail
  exact bodyPost_ret (v := .tuple #[.agg #[.int .u64 (q : Int), .string ⟨#[]⟩], .agg #[.int .u64 (r : Int), .string ⟨#[]⟩], .bool true]) (by simp [results, Tryz.results165, go_sem, hc]) rfl ⟨rfl, by (refine In.bel ?_; (repeat (first | (refine In.setCell ?_ (by first | omega | (simp; done) | (simp; omega)) _) | (refine In.alloc ?_ _) | (refine In.drew ?_))); (first | exact In.self _ | (refine In.out h ?_ (by first | omega | (simp; done) | (simp; omega)); (repeat (first | (refine In.setCell ?_ (by first | omega | (simp; done) | (simp; omega)) _) | (refine In.alloc ?_ _) | (refine In.drew ?_))); exact In.self _)))⟩
theorem top_ne {ys : List Nat} {k n : Nat} (h : ys.take (k + 1) = wd n) (hl : (wd n).length = k + 1) : ys.getD k 0 ≠ 0 := by
  have h1 := wd_nrm n
  have hk : k < ys.length := by have := congrArg List.length h; rw [List.length_take, hl] at this; omega
  rw [← h, List.take_succ_eq_append_getElem hk, Nrm.snoc] at h1
  simpa [hk] using h1
theorem one_word {ys : List Nat} {n : Nat} (h : ys.take 1 = wd n) (hl : (wd n).length = 1) : ys.getD 0 0 = n := by
  have hv := wd_val n
  rw [← h] at hv
  have hk : 0 < ys.length := by have := congrArg List.length h; rw [List.length_take, hl] at this; omega
  rw [List.take_succ_eq_append_getElem hk] at hv
  simpa [val, hk] using hv
theorem div_eqs {m n q r : Nat} (h : m = q * n + r) (hr : r < n) : q = m / n ∧ r = m % n := by
  have h1 : m / n = q := by rw [h, Nat.mul_comm, Nat.mul_add_div (by omega), Nat.div_eq_of_lt hr, Nat.add_zero]
  have h2 : m % n = r := by rw [h, Nat.mul_comm, Nat.mul_add_mod, Nat.mod_eq_of_lt hr]
  exact ⟨h1.symm, h2.symm⟩
set_option maxRecDepth 100000 in
set_option maxHeartbeats 2000000 in
theorem div_big (m n : Nat) (hn0 : ¬ n = 0) (hmn : n ≤ m) (hs : ¬ m < 18446744073709551616) (hm : (wd m).length ≤ 549755813888) (w : World) :
    Calls Tryz.prog 165 #[natV m, natV n] w fun e w' => e = .returned (.tuple #[natV (m / n), natV (m % n), .bool true]) ∧ Below w.heap.size w w' := by
  have hn : (wd n).length ≤ (wd m).length := by
    refine Decidable.by_contra fun hh => ?_
    have := lt_of_length (m := m) (n := n) (by omega)
    omega
  have hcn : ¬ cmpN m n < 0 := fun h => by have := (cmpN_neg m n).1 h; omega
  have he1 := smallB_eq m
  rw [smallB_false hs] at he1
  have hwn0 := wd_ne_nil hn0
  obtain ⟨W0, hW0⟩ : ∃ W0, W0 = (((w.alloc (.cells #[.int .u64 (lo m), .string (bg m)] 46)).alloc (.cells #[.int .u64 (lo n), .string (bg n)] 46)).alloc (.cells #[.int .u64 0, .string ⟨#[]⟩] 46)).alloc (.cells #[.int .u64 0, .string ⟨#[]⟩] 46) := ⟨_, rfl⟩
  obtain ⟨N, hN⟩ : ∃ N, N = w.heap.size := ⟨_, rfl⟩
  have c0 : W0.cell? ⟨N, 0, none⟩ = some (.int .u64 (lo m)) := by rw [hW0, hN]; simp [go_sem]
  have c1 : W0.cell? ⟨N, 1, none⟩ = some (.string (bg m)) := by rw [hW0, hN]; simp [go_sem]
  have c2 : W0.cell? ⟨N + 1, 0, none⟩ = some (.int .u64 (lo n)) := by rw [hW0, hN]; simp [go_sem]
  have c3 : W0.cell? ⟨N + 1, 1, none⟩ = some (.string (bg n)) := by rw [hW0, hN]; simp [go_sem]
  have c4 : W0.cell? ⟨N + 1 + 1, 0, none⟩ = some (.int .u64 0) := by rw [hW0, hN]; simp [go_sem]
  have c5 : W0.cell? ⟨N + 1 + 1, 1, none⟩ = some (.string ⟨#[]⟩) := by rw [hW0, hN]; simp [go_sem]
  have c6 : W0.cell? ⟨N + 1 + 1 + 1, 0, none⟩ = some (.int .u64 0) := by rw [hW0, hN]; simp [go_sem]
  have c7 : W0.cell? ⟨N + 1 + 1 + 1, 1, none⟩ = some (.string ⟨#[]⟩) := by rw [hW0, hN]; simp [go_sem]
  have f4 : W0.frozen? ⟨N + 1 + 1, 0, none⟩ = false := by rw [hW0, hN]; simp [go_sem]
  have f5 : W0.frozen? ⟨N + 1 + 1, 1, none⟩ = false := by rw [hW0, hN]; simp [go_sem]
  have f6 : W0.frozen? ⟨N + 1 + 1 + 1, 0, none⟩ = false := by rw [hW0, hN]; simp [go_sem]
  have f7 : W0.frozen? ⟨N + 1 + 1 + 1, 1, none⟩ = false := by rw [hW0, hN]; simp [go_sem]
  have hin : In N w W0 := by rw [hW0, hN]; exact ((((In.self w).alloc _).alloc _).alloc _).alloc _
  have h0 : In (N + 1 + 1 + 1 + 1) W0 W0 := by have := In.self W0; rw [hW0, World.size_alloc, World.size_alloc, World.size_alloc, World.size_alloc, ← hW0, ← hN] at this; exact this
  have HIN := Lib.hid hin
  have HW := Lib.hid hW0
  have HN := Lib.hid hN
  clear hin hW0 hN
  go_enter Tryz.func165, Tryz.ntmps165
  go_upto_region 1 with fail
  rw [← HW.out, ← HN.out]
  go_wp2_with fail
  refine (zero_any n _).mono ?_
  rintro e wa ⟨rfl, hba⟩
  have h := h0.call hba
  clear hba
  have hc' := h.cell
  have hf' := h.frozen
  go_wp2_with fail
  refine (Cmp_any m n (by omega) (by omega) _).mono ?_
  rintro e wb ⟨rfl, hba⟩
  replace h := h.call hba
  clear hba hc' hf'
  have hc' := h.cell
  have hf' := h.frozen
  go_wp2_with fail
  refine (words_any n (by omega) _).mono ?_
  rintro e w2 ⟨b2, ys, rfl, hy, hy1, hy2, hy3, hy4, hy5, hb2⟩
  have A2 : WordsAt w2 b2 ys n := ⟨hy, hy1, hy2, hy3, hy4⟩
  replace h := h.call hb2
  clear hy hy1 hy2 hy3 hy4 hy5 hb2 hc' hf'
  have hc' := h.cell
  have hf' := h.frozen
  obtain ⟨L, hL⟩ : ∃ L, L = (wd n).length := ⟨_, rfl⟩
  have hL0 : L ≠ 0 := fun h0 => hwn0 (List.eq_nil_of_length_eq_zero (by rw [← hL, h0]))
  rw [← hL] at hn ⊢
  obtain ⟨Y, hY⟩ : ∃ Y, Y = ys.length := ⟨_, rfl⟩
  rw [← hY]
  have HY := Lib.hid hY
  have HL := Lib.hid hL
  clear hL hY hwn0
  by_cases h1 : L = 1
  · subst h1
    have hw1 := one_word (by have := A2.tk; rwa [← HL.out] at this) HL.out.symm
    have hnl : n < 4294967296 := by rw [← hw1]; exact A2.dig.getD 0
    have hY1 : 1 ≤ Y := by have := A2.le; rwa [← HL.out, ← HY.out] at this
    have hcy := A2.blk.cell (i := 0) (by rw [← HY.out]; omega)
    rw [hw1] at hcy
    have hb2l := A2.blk.lt
    have k0 : w2.cell? ⟨N, 0, none⟩ = some (.int .u64 (lo m)) := by rw [hc' _ _ (by omega)]; exact c0
    have k1 : w2.cell? ⟨N, 1, none⟩ = some (.string (bg m)) := by rw [hc' _ _ (by omega)]; exact c1
    have hNl : N < w2.heap.size := by have := h.siz; omega
    have hS := (In.self w2).drew
    have hn1 : 0 < n := by omega
    have HW1 := Lib.hid hw1
    clear hw1 hL0 c0 c1 c2 c3 he1 hcn hn0
    go_upto_region 9 with fail
    refine wp_region_mix (In w2.heap.size w2) [(0, true), (2, true), (3, true), (4, true), (1, false), (5, false), (6, true), (7, true), (8, true), (9, true), (10, true)] (by kernel_rfl) (by kernel_rfl) (by kernel_rfl) (by kernel_rfl) (fun _ _ d _ _ h => by cases d <;> exact h) ?_ ?_
    · exact hS
    clear hc' hf'
    repeat (apply mix_take; (focus rfl); (focus rfl); (focus (intro w' hw'; have hc' := hw'.cell; go_simp; exact rfl)); (try simp only [Act.put]); (try simp only [List.setIfInBounds_toArray]); (try simp only [List.set]))
    (apply mix_run; (focus rfl); (focus rfl); intro K hK; go_simp)
    refine (words_any m (by omega) _).mono ?_
    rintro e w3 ⟨b1, xs, rfl, hx, hx1, hx2, hx3, hx4, hx5, hb3⟩
    have h3 := hS.call hb3
    (refine hK _ _ (h3) ?_; clear hK K; (try simp only [Act.put]); (try simp only [List.setIfInBounds_toArray]); (try simp only [List.set]))
    (apply mix_run; (focus rfl); (focus rfl); intro K hK; go_simp)
    refine (short_any _ b1 (wd m).length xs.length n xs hx hx4 hx2 (by omega) hn1 hnl).mono ?_
    rintro e w4 ⟨ds, r, rfl, hd, hdl, hdd, hr, hdv, hb4⟩
    have h4 := h3.call hb4
    rw [hx1, wd_val] at hdv
    obtain ⟨hq, hr2⟩ := div_eqs hdv hr
    obtain ⟨G, hG⟩ : ∃ G, G = w3.heap.size := ⟨_, rfl⟩
    obtain ⟨K1, hK1⟩ : ∃ K1, K1 = (wd m).length := ⟨_, rfl⟩
    rw [← hG] at hd ⊢
    rw [← hK1] at hdl hm hn ⊢
    have HG := Lib.hid hG
    have HK1 := Lib.hid hK1
    have HQ := Lib.hid hq
    have HR := Lib.hid hr2
    have HDL := Lib.hid hdl
    clear hG hK1 hq hr2 hdl hx hx1 hx2 hx3 hx4 hx5 hb3 hb4 h3 hdv
    (refine hK _ _ (h4) ?_; clear hK K; (try simp only [Act.put]); (try simp only [List.setIfInBounds_toArray]); (try simp only [List.set]))
    repeat (apply mix_take; (focus rfl); (focus rfl); (focus (intro w' hw'; go_simp; exact rfl)); (try simp only [Act.put]); (try simp only [List.setIfInBounds_toArray]); (try simp only [List.set]))
    refine mix_done ?_
    have h5 : In (N + 1 + 1 + 1 + 1) W0 w4 := h4.out h h.siz
    have hc' := h5.cell
    have hf' := h5.frozen
    clear h4 h hS k0 k1 hcy hNl hb2l
    go_wp2_with fail
    refine (of_any _ G K1 K1 ds hd hdd (by rw [HDL.out]; exact Nat.le_refl _) (Nat.le_refl _) (by omega) (by omega)).mono ?_
    rintro e w6 ⟨rfl, hb6⟩
    replace h5 := h5.call hb6
    rw [List.take_of_length_le (by rw [HDL.out]; exact Nat.le_refl _), HQ.out]
    clear hb6 hc' hf' hd
    have hc' := h5.cell
    have hf' := h5.frozen
    go_wp2_with fail
    exact bodyPost_ret (v := .tuple #[natV (m / n), .agg #[.int .u64 (r : Nat), .string ⟨#[]⟩], .bool true]) (by simp [results, Tryz.results165, go_sem, hc', c4, c5, c6, c7]) rfl
      ⟨by rw [← HR.out, natV, natV, lo_small (n := r) (by omega), bg_small (n := r) (by omega)]; rfl, by rw [← HN.out]; exact (((((h5.out HIN.out (by omega)).setCell (by simp; omega) _).setCell (by simp; omega) _).setCell (by simp; omega) _).setCell (by simp; omega) _).bel⟩
  · obtain ⟨p, hp⟩ : ∃ p, L = p + 2 := ⟨L - 2, by omega⟩
    subst hp
    have hne : (((p + 2 : Nat) : Int) == 1) = false := by simp; omega
    clear hL0 h1
    go_wp2_with fail
    refine (words_any m (by omega) _).mono ?_
    rintro e w3 ⟨b1, xs, rfl, hx, hx1, hx2, hx3, hx4, hx5, hb3⟩
    have A3 := A2.call hb3
    replace h := h.call hb3
    clear hb3 A2 hc' hf' he1 hcn hx5
    have hc' := h.cell
    have hf' := h.frozen
    have htop := top_ne (by have := A3.tk; rwa [← HL.out] at this) HL.out.symm
    have hlong := long_any w3 b1 (wd m).length xs.length b2 p Y xs ys hx A3.blk hx4 A3.dig hx2 (by have := A3.le; rwa [← HL.out] at this) htop hn (by omega)
    have hv2 : val (ys.take (p + 2)) = n := by have := A3.tk; rw [← HL.out] at this; rw [this, wd_val]
    rw [hx1, wd_val, hv2] at hlong
    obtain ⟨K1, hK1⟩ : ∃ K1, K1 = (wd m).length := ⟨_, rfl⟩
    obtain ⟨X1, hX1⟩ : ∃ X1, X1 = xs.length := ⟨_, rfl⟩
    rw [← hK1, ← hX1] at hlong ⊢
    rw [← hK1] at hm hn
    have HLONG := Lib.hid hlong
    clear hlong htop hv2 hK1 hX1 hx hx1 hx2 hx3 hx4 A3 c0 c1 c2 c3 hne
    go_wp2_with fail
    refine HLONG.out.mono ?_
    rintro e w4 ⟨bu, us, bq, qs, T, rfl, hu, hq, hul, hql, hT, hud, hqd, hqv, huv, hb4⟩
    replace h := h.call hb4
    clear hb4 hc' hf' HLONG
    have hc' := h.cell
    have hf' := h.frozen
    have HQV := Lib.hid hqv
    have HUV := Lib.hid huv
    have HQL := Lib.hid hql
    have HUL := Lib.hid hul
    clear hqv huv hql hul
    go_wp2_with fail
    refine (of_any _ bq T T qs hq hqd (by rw [HQL.out]; exact Nat.le_refl _) (Nat.le_refl _) (by omega) (by omega)).mono ?_
    rintro e w5 ⟨rfl, hb5⟩
    replace h := h.call hb5
    rw [List.take_of_length_le (by rw [HQL.out]; exact Nat.le_refl _), HQV.out]
    have hu5 := hu.call hb5
    clear hb5 hc' hf' hq hu
    have hc' := h.cell
    have hf' := h.frozen
    go_wp2_with fail
    refine (of_any _ bu (K1 + 1) (K1 + 1) us hu5 hud (by rw [HUL.out]; exact Nat.le_refl _) (Nat.le_refl _) (by omega) (by omega)).mono ?_
    rintro e w6 ⟨rfl, hb6⟩
    replace h := h.call hb6
    rw [List.take_of_length_le (by rw [HUL.out]; exact Nat.le_refl _), HUV.out]
    clear hb6 hc' hf' hu5
    have hc' := h.cell
    have hf' := h.frozen
    go_wp2_with fail
    exact bodyPost_ret (v := .tuple #[natV (m / n), natV (m % n), .bool true]) (by simp [results, Tryz.results165, go_sem, hc', c4, c5, c6, c7]) rfl
      ⟨rfl, by rw [← HN.out]; exact (((((h.out HIN.out (by omega)).setCell (by simp; omega) _).setCell (by simp; omega) _).setCell (by simp; omega) _).setCell (by simp; omega) _).bel⟩
/-- nats.Div -/
theorem div_any (m n : Nat) (hn0 : ¬ n = 0) (hm : (wd m).length ≤ 549755813888) (hn : (wd n).length ≤ 549755813888) (w : World) :
    Calls Tryz.prog 165 #[natV m, natV n] w fun e w' => e = .returned (.tuple #[natV (m / n), natV (m % n), .bool true]) ∧ Below w.heap.size w w' := by
  by_cases h : m < n
  · have := div_lt m n h hm hn w
    rwa [Nat.div_eq_of_lt h, Nat.mod_eq_of_lt h]
  · by_cases hs : m < 18446744073709551616
    · exact div_small m n hn0 (by omega) hs w
    · exact div_big m n hn0 (by omega) hs hm w
end Gus
