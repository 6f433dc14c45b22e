/- Proved here: parts of the proof: FracD SpA. Conditions: those that each theorem states. -/
import Derived.Test.YtakblfhmllgepaaGreatDoorFracBQ
section
namespace Gus
open Go Go.RowKit Go.Proofs
theorem inv_mk {b : Rat} (hb : b ≠ 0) : mkRat (sgn (decide (b.num < 0)) b.den) b.num.natAbs = b⁻¹ := by
  rw [Rat.inv_def]
  have hn : b.num ≠ 0 := fun h0 => hb (Rat.num_eq_zero.1 h0)
  unfold sgn
  cases hm : b.num with
  | ofNat m =>
    simp [Rat.divInt]
    rw [if_neg (by omega)]
  | negSucc m => rw [Rat.mkRat_def, dif_neg (by simp)]; simp [Rat.divInt]
set_option maxRecDepth 100000 in
set_option maxHeartbeats 1000000 in
theorem fmul_whole (a b : Rat) (ha : a.den = 1) (hb : b.den = 1) (hna : Wl a.num.natAbs) (hnb : Wl b.num.natAbs) (w : World) :
    Calls Tryz.prog 50 #[fracV a, fracV b] w fun e w' => e = .returned (fracV (a * b)) ∧ Below w.heap.size w w' := by
  have h1 := isWhole_any a
  have h2 := isWhole_any b
  rw [decide_eq_true ha] at h1
  rw [decide_eq_true hb] at h2
  have h3 := imul_any a.num b.num hna hnb
  have h4 := whole_any (a.num * b.num)
  rw [mul_whole ha hb] at h4
  clear ha hb hna hnb
  go_enter Tryz.func50, Tryz.ntmps50
  go_wp2_with fail
  (refine (h1 _).mono ?_; rintro e w' ⟨rfl, hb⟩; have h := (In.self _).call hb; (try simp only [World.size_alloc] at h); (try simp only [World.size_setCell] at h); clear hb; have hc := h.cell; have hf := h.frozen)
  go_wp2_with fail
  (refine (h2 _).mono ?_; rintro e w' ⟨rfl, hb⟩; replace h := In.call (by first | exact h | exact h.drew | exact h.alloc _ | exact (h.alloc _).alloc _ | exact ((h.alloc _).alloc _).alloc _) hb; clear hb hc hf; have hc := h.cell; have hf := h.frozen)
  go_wp2_with fail
  (refine (h3 _).mono ?_; rintro e w' ⟨rfl, hb⟩; replace h := In.call (by first | exact h | exact h.drew | exact h.alloc _ | exact (h.alloc _).alloc _ | exact ((h.alloc _).alloc _).alloc _) hb; clear hb hc hf; have hc := h.cell; have hf := h.frozen)
  go_wp2_with fail
  (refine (h4 _).mono ?_; rintro e w' ⟨rfl, hb⟩; replace h := In.call (by first | exact h | exact h.drew | exact h.alloc _ | exact (h.alloc _).alloc _ | exact ((h.alloc _).alloc _).alloc _) hb; clear hb hc hf; have hc := h.cell; have hf := h.frozen)
  go_wp2_with fail
  exact bodyPost_ret (v := fracV (a * b)) (by simp [results, Tryz.results50, go_sem, *]) rfl ⟨rfl, by (refine In.bel ?_; (repeat (first | (refine In.setCell ?_ (by first | omega | (simp; done) | (simp; omega)) _) | (refine In.alloc ?_ _) | (refine In.drew ?_))); (first | exact In.self _ | (refine In.out h ?_ (by first | omega | (simp; done) | (simp; omega)); (repeat (first | (refine In.setCell ?_ (by first | omega | (simp; done) | (simp; omega)) _) | (refine In.alloc ?_ _) | (refine In.drew ?_))); exact In.self _)))⟩
set_option maxRecDepth 100000 in
set_option maxHeartbeats 2000000 in
theorem fmul_frac (a b : Rat) (hab : ¬ (a.den = 1 ∧ b.den = 1)) (hna : Wl a.num.natAbs) (hnb : Wl b.num.natAbs) (hda : Wl a.den) (hdb : Wl b.den) (hs : Wl (a.num * b.num).natAbs) (hd : Wl (a.den * b.den)) (w : World) :
    Calls Tryz.prog 50 #[fracV a, fracV b] w fun e w' => e = .returned (fracV (a * b)) ∧ Below w.heap.size w w' := by
  have hw1 := isWhole_any a
  have hw2 := isWhole_any b
  have c3 := imul_any a.num b.num hna hnb
  have c6 := fden_any a hda
  have c7 := fden_any b hdb
  have c8 := mul_any a.den b.den hda hdb
  have c9 := lowest_any (a.num * b.num) (a.den * b.den) (Nat.mul_ne_zero a.den_nz b.den_nz) hs hd
  rw [← Rat.mul_def'] at c9
  by_cases ha : a.den = 1
  · have hb : ¬ b.den = 1 := fun hb => hab ⟨ha, hb⟩
    rw [decide_eq_true ha] at hw1
    rw [decide_eq_false hb] at hw2
    clear ha hb hab hna hnb hda hdb hs hd
    go_enter Tryz.func50, Tryz.ntmps50
    go_wp2_with fail
    (refine (hw1 _).mono ?_; rintro e w' ⟨rfl, hb⟩; have h := (In.self _).call hb; (try simp only [World.size_alloc] at h); (try simp only [World.size_setCell] at h); clear hb; have hc := h.cell; have hf := h.frozen)
    go_wp2_with fail
    (refine (hw2 _).mono ?_; rintro e w' ⟨rfl, hb⟩; replace h := In.call (by first | exact h | exact h.drew | exact h.alloc _ | exact (h.alloc _).alloc _ | exact ((h.alloc _).alloc _).alloc _) hb; clear hb hc hf; have hc := h.cell; have hf := h.frozen)
    go_wp2_with fail
    have h0 := h; have hz0 : w.heap.size < w'.heap.size := (by have := h.siz; omega); have hz1 : w.heap.size + 1 < w'.heap.size := (by have := h.siz; omega); have hz2 : w.heap.size + 1 + 1 < w'.heap.size := (by have := h.siz; omega); refine wp_region_flow 11 (by kernel_rfl) (by kernel_rfl) (fun _ _ d _ _ h => by cases d <;> exact h) ?_; simp only [List.take_succ_cons, List.take_zero, List.drop_succ_cons, List.drop_zero]; simp only [putAll, Act.put, List.setIfInBounds_toArray, List.set]; (try simp only [Nat.reduceAdd]); (try simp only [Nat.zero_add]); (repeat (first | ((with_reducible refine flow_float (v := ?_) ?_ ?_ ?_); rotate_left 1; (focus (with_reducible rfl)); (focus (intro u w1 hw hd w2; (try simp only [depH] at hd); (try simp only [ext] at hd); (try simp only [extU] at hd); (try simp only [Nat.reduceAdd] at hd); (try simp only [Nat.reduceEqDiff] at hd); (try simp only [reduceIte] at hd); (try simp only [and_true] at hd); (try simp only [true_and] at hd); go_simp; exact rfl))) | ((first | ((with_reducible refine flow_pure0 (v := ?_) ?_ ?_ ?_ ?_); rotate_left 1; (focus (with_reducible rfl)); (focus rfl)) | ((with_reducible refine flow_pureg (v := ?_) (j := ?_) (b := ?_) ?_ ?_ ?_ ?_); rotate_left 3; (focus (with_reducible rfl)); (focus (intro u w1 hw hd; (try simp only [depH] at hd); (try simp only [ext] at hd); (try simp only [extU] at hd); (try simp only [Nat.reduceAdd] at hd); (try simp only [Nat.reduceEqDiff] at hd); (try simp only [reduceIte] at hd); (try simp only [and_true] at hd); (try simp only [true_and] at hd); simp [yielded, hd]; done)))); (focus (intro u w1 hw hd; (try simp only [depH] at hd); (try simp only [ext] at hd); (try simp only [extU] at hd); (try simp only [Nat.reduceAdd] at hd); (try simp only [Nat.reduceEqDiff] at hd); (try simp only [reduceIte] at hd); (try simp only [and_true] at hd); (try simp only [true_and] at hd); have hc' := hw.cell; first | (go_simp; exact rfl) | (go_simp; go_at_call 65; ((with_reducible refine (c3 _).mono ?_)); rintro e w'' ⟨rfl, hb⟩; refine ⟨?_, hb⟩; exact rfl) | (go_simp; go_at_call 64; ((with_reducible refine (c6 _).mono ?_)); rintro e w'' ⟨rfl, hb⟩; refine ⟨?_, hb⟩; exact rfl) | (go_simp; go_at_call 64; ((with_reducible refine (c7 _).mono ?_)); rintro e w'' ⟨rfl, hb⟩; refine ⟨?_, hb⟩; exact rfl) | (go_simp; go_at_call 67; ((with_reducible refine (c8 _).mono ?_)); rintro e w'' ⟨rfl, hb⟩; refine ⟨?_, hb⟩; exact rfl) | (go_simp; go_at_call 63; ((with_reducible refine (c9 _).mono ?_)); rintro e w'' ⟨rfl, hb⟩; refine ⟨?_, hb⟩; exact rfl)))) | ((with_reducible refine flow_skipg (j := ?_) (b := ?_) ?_ ?_ ?_); rotate_left 2; (focus (with_reducible rfl)); (focus (intro u w1 hw hd; (try simp only [depH] at hd); (try simp only [ext] at hd); (try simp only [extU] at hd); (try simp only [Nat.reduceAdd] at hd); (try simp only [Nat.reduceEqDiff] at hd); (try simp only [reduceIte] at hd); (try simp only [and_true] at hd); (try simp only [true_and] at hd); simp [yielded, hd]; done))) | ((with_reducible refine flow_alloc (t := ?_) (zs := ?_) ?_ ?_ ?_ ?_); rotate_left 2; (focus (with_reducible rfl)); (focus rfl); (focus (intro u w1; go_simp; exact rfl))))); (try clear hc hf h); intro u w' h ha hdi; replace h := h.ins; (try simp only [World.size_alloc] at h); (try dsimp only at ha); (repeat rw [World.size_alloc] at ha); (try simp only [allH] at ha); (try simp only [ext] at ha); (try simp only [extU] at ha); (try simp only [Nat.reduceAdd] at ha); (try simp only [Nat.reduceEqDiff] at ha); (try simp only [reduceIte] at ha); (try simp only [and_true] at ha); (try simp only [true_and] at ha); have hc := h.cell; have hf := h.frozen; replace h := h.out h0 h0.siz; clear hc hf h0 hz0 hz1 hz2; have hc := h.cell; have hf := h.frozen; (try obtain ha := ha); (try dsimp only);  simp only [ha]; clear ha hdi 
    go_wp2_with fail
    exact bodyPost_ret (v := fracV (a * b)) (by simp [results, Tryz.results50, go_sem, *]) rfl ⟨rfl, by (refine In.bel ?_; (repeat (first | (refine In.setCell ?_ (by first | omega | (simp; done) | (simp; omega)) _) | (refine In.alloc ?_ _) | (refine In.drew ?_))); (first | exact In.self _ | (refine In.out h ?_ (by first | omega | (simp; done) | (simp; omega)); (repeat (first | (refine In.setCell ?_ (by first | omega | (simp; done) | (simp; omega)) _) | (refine In.alloc ?_ _) | (refine In.drew ?_))); exact In.self _)))⟩
  · rw [decide_eq_false ha] at hw1
    clear ha hab hna hnb hda hdb hs hd
    go_enter Tryz.func50, Tryz.ntmps50
    go_wp2_with fail
    (refine (hw1 _).mono ?_; rintro e w' ⟨rfl, hb⟩; have h := (In.self _).call hb; (try simp only [World.size_alloc] at h); (try simp only [World.size_setCell] at h); clear hb; have hc := h.cell; have hf := h.frozen)
    go_wp2_with fail
    have h0 := h; have hz0 : w.heap.size < w'.heap.size := (by have := h.siz; omega); have hz1 : w.heap.size + 1 < w'.heap.size := (by have := h.siz; omega); have hz2 : w.heap.size + 1 + 1 < w'.heap.size := (by have := h.siz; omega); refine wp_region_flow 11 (by kernel_rfl) (by kernel_rfl) (fun _ _ d _ _ h => by cases d <;> exact h) ?_; simp only [List.take_succ_cons, List.take_zero, List.drop_succ_cons, List.drop_zero]; simp only [putAll, Act.put, List.setIfInBounds_toArray, List.set]; (try simp only [Nat.reduceAdd]); (try simp only [Nat.zero_add]); (repeat (first | ((with_reducible refine flow_float (v := ?_) ?_ ?_ ?_); rotate_left 1; (focus (with_reducible rfl)); (focus (intro u w1 hw hd w2; (try simp only [depH] at hd); (try simp only [ext] at hd); (try simp only [extU] at hd); (try simp only [Nat.reduceAdd] at hd); (try simp only [Nat.reduceEqDiff] at hd); (try simp only [reduceIte] at hd); (try simp only [and_true] at hd); (try simp only [true_and] at hd); go_simp; exact rfl))) | ((first | ((with_reducible refine flow_pure0 (v := ?_) ?_ ?_ ?_ ?_); rotate_left 1; (focus (with_reducible rfl)); (focus rfl)) | ((with_reducible refine flow_pureg (v := ?_) (j := ?_) (b := ?_) ?_ ?_ ?_ ?_); rotate_left 3; (focus (with_reducible rfl)); (focus (intro u w1 hw hd; (try simp only [depH] at hd); (try simp only [ext] at hd); (try simp only [extU] at hd); (try simp only [Nat.reduceAdd] at hd); (try simp only [Nat.reduceEqDiff] at hd); (try simp only [reduceIte] at hd); (try simp only [and_true] at hd); (try simp only [true_and] at hd); simp [yielded, hd]; done)))); (focus (intro u w1 hw hd; (try simp only [depH] at hd); (try simp only [ext] at hd); (try simp only [extU] at hd); (try simp only [Nat.reduceAdd] at hd); (try simp only [Nat.reduceEqDiff] at hd); (try simp only [reduceIte] at hd); (try simp only [and_true] at hd); (try simp only [true_and] at hd); have hc' := hw.cell; first | (go_simp; exact rfl) | (go_simp; go_at_call 65; ((with_reducible refine (c3 _).mono ?_)); rintro e w'' ⟨rfl, hb⟩; refine ⟨?_, hb⟩; exact rfl) | (go_simp; go_at_call 64; ((with_reducible refine (c6 _).mono ?_)); rintro e w'' ⟨rfl, hb⟩; refine ⟨?_, hb⟩; exact rfl) | (go_simp; go_at_call 64; ((with_reducible refine (c7 _).mono ?_)); rintro e w'' ⟨rfl, hb⟩; refine ⟨?_, hb⟩; exact rfl) | (go_simp; go_at_call 67; ((with_reducible refine (c8 _).mono ?_)); rintro e w'' ⟨rfl, hb⟩; refine ⟨?_, hb⟩; exact rfl) | (go_simp; go_at_call 63; ((with_reducible refine (c9 _).mono ?_)); rintro e w'' ⟨rfl, hb⟩; refine ⟨?_, hb⟩; exact rfl)))) | ((with_reducible refine flow_skipg (j := ?_) (b := ?_) ?_ ?_ ?_); rotate_left 2; (focus (with_reducible rfl)); (focus (intro u w1 hw hd; (try simp only [depH] at hd); (try simp only [ext] at hd); (try simp only [extU] at hd); (try simp only [Nat.reduceAdd] at hd); (try simp only [Nat.reduceEqDiff] at hd); (try simp only [reduceIte] at hd); (try simp only [and_true] at hd); (try simp only [true_and] at hd); simp [yielded, hd]; done))) | ((with_reducible refine flow_alloc (t := ?_) (zs := ?_) ?_ ?_ ?_ ?_); rotate_left 2; (focus (with_reducible rfl)); (focus rfl); (focus (intro u w1; go_simp; exact rfl))))); (try clear hc hf h); intro u w' h ha hdi; replace h := h.ins; (try simp only [World.size_alloc] at h); (try dsimp only at ha); (repeat rw [World.size_alloc] at ha); (try simp only [allH] at ha); (try simp only [ext] at ha); (try simp only [extU] at ha); (try simp only [Nat.reduceAdd] at ha); (try simp only [Nat.reduceEqDiff] at ha); (try simp only [reduceIte] at ha); (try simp only [and_true] at ha); (try simp only [true_and] at ha); have hc := h.cell; have hf := h.frozen; replace h := h.out h0 h0.siz; clear hc hf h0 hz0 hz1 hz2; have hc := h.cell; have hf := h.frozen; (try obtain ha := ha); (try dsimp only);  simp only [ha]; clear ha hdi 
    go_wp2_with fail
    exact bodyPost_ret (v := fracV (a * b)) (by simp [results, Tryz.results50, go_sem, *]) rfl ⟨rfl, by (refine In.bel ?_; (repeat (first | (refine In.setCell ?_ (by first | omega | (simp; done) | (simp; omega)) _) | (refine In.alloc ?_ _) | (refine In.drew ?_))); (first | exact In.self _ | (refine In.out h ?_ (by first | omega | (simp; done) | (simp; omega)); (repeat (first | (refine In.setCell ?_ (by first | omega | (simp; done) | (simp; omega)) _) | (refine In.alloc ?_ _) | (refine In.drew ?_))); exact In.self _)))⟩
/-- fracs.Mul -/
theorem fmul_any {i j : Nat} (a b : Rat) (ha : SzK i a) (hb : SzK j b) (hij : i + j < 17592186044416) (w : World) :
    Calls Tryz.prog 50 #[fracV a, fracV b] w fun e w' => e = .returned (fracV (a * b)) ∧ Below w.heap.size w w' := by
  have hna := ha.num (by omega)
  have hnb := hb.num (by omega)
  have hda := ha.dn (by omega)
  have hdb := hb.dn (by omega)
  by_cases hab : a.den = 1 ∧ b.den = 1
  · exact fmul_whole a b hab.1 hab.2 hna hnb w
  · exact fmul_frac a b hab hna hnb hda hdb (Wl_of (by rw [Int.natAbs_mul]; exact mul_lt_pow ha.1 hb.1) hij) (Wl_of (mul_lt_pow ha.2 hb.2) hij) w
set_option maxRecDepth 100000 in
set_option maxHeartbeats 2000000 in
theorem fdiv_any {i j : Nat} (a b : Rat) (hb0 : b ≠ 0) (ha : SzK i a) (hb : SzK j b) (hij : i + j < 17592186044416) (w : World) :
    Calls Tryz.prog 45 #[fracV a, fracV b] w fun e w' => e = .returned (.tuple #[fracV (a / b), .int .i64 0]) ∧ Below w.heap.size w w' := by
  have hbn : b.num ≠ 0 := fun h0 => hb0 (Rat.num_eq_zero.1 h0)
  have hj := hb.pos
  have c0 := fsign_any b
  have hi0 : ¬ isign b.num = 0 := by unfold isign; split <;> (try split) <;> simp_all
  have hs1 : decide (isign b.num < 0) = decide (b.num < 0) := by rw [decide_eq_decide]; exact isign_neg b.num
  obtain ⟨s, hs⟩ : ∃ s, s = decide (b.num < 0) := ⟨_, rfl⟩
  rw [← hs] at hs1
  have c1 := fden_any b (hb.dn (by omega))
  have c2 := from_any s b.den
  have c3 := abs_any b.num
  have c4 := lowest_any (sgn s b.den) b.num.natAbs (by omega) (by rw [sgn_abs]; exact hb.dn (by omega)) (hb.num (by omega))
  have c5 := fmul_any a b⁻¹ ha (hb.inv hj) hij
  rw [← Rat.div_def] at c5
  rw [hs, inv_mk hb0] at c4
  rw [← hs] at c4
  obtain ⟨z, hz⟩ : ∃ z, z = isign b.num := ⟨_, rfl⟩
  rw [← hz] at hs1 hi0 c0
  obtain ⟨b', hb'⟩ : ∃ b', b' = b⁻¹ := ⟨_, rfl⟩
  rw [← hb'] at c4 c5
  obtain ⟨q, hq⟩ : ∃ q, q = a / b := ⟨_, rfl⟩
  rw [← hq] at c5 ⊢
  have hz0 : (z == 0) = false := by simpa using hi0
  clear hs hz hb' hq ha hb hij hb0 hbn hj hi0
  go_enter Tryz.func45, Tryz.ntmps45
  go_wp2_with fail
  (refine (c0 _).mono ?_; rintro e w' ⟨rfl, hb⟩; have h := (In.self _).call hb; (try simp only [World.size_alloc] at h); (try simp only [World.size_setCell] at h); clear hb; have hc := h.cell; have hf := h.frozen)
  go_wp2_with fail
  have h0 := h
  have hz0 : w.heap.size < w'.heap.size := (by have := h.siz; omega); have hz1 : w.heap.size + 1 < w'.heap.size := (by have := h.siz; omega); have hz2 : w.heap.size + 1 + 1 < w'.heap.size := (by have := h.siz; omega)
  refine wp_region_flow 11 (by kernel_rfl) (by kernel_rfl) (fun _ _ d _ _ h => by cases d <;> exact h) ?_; simp only [List.take_succ_cons, List.take_zero, List.drop_succ_cons, List.drop_zero]; simp only [putAll, Act.put, List.setIfInBounds_toArray, List.set]; (try simp only [Nat.reduceAdd]); (try simp only [Nat.zero_add]); (repeat (first | ((with_reducible refine flow_float (v := ?_) ?_ ?_ ?_); rotate_left 1; (focus (with_reducible rfl)); (focus (intro u w1 hw hd w2; (try simp only [depH] at hd); (try simp only [ext] at hd); (try simp only [extU] at hd); (try simp only [Nat.reduceAdd] at hd); (try simp only [Nat.reduceEqDiff] at hd); (try simp only [reduceIte] at hd); (try simp only [and_true] at hd); (try simp only [true_and] at hd); go_simp; exact rfl))) | ((first | ((with_reducible refine flow_pure0 (v := ?_) ?_ ?_ ?_ ?_); rotate_left 1; (focus (with_reducible rfl)); (focus rfl)) | ((with_reducible refine flow_pureg (v := ?_) (j := ?_) (b := ?_) ?_ ?_ ?_ ?_); rotate_left 3; (focus (with_reducible rfl)); (focus (intro u w1 hw hd; (try simp only [depH] at hd); (try simp only [ext] at hd); (try simp only [extU] at hd); (try simp only [Nat.reduceAdd] at hd); (try simp only [Nat.reduceEqDiff] at hd); (try simp only [reduceIte] at hd); (try simp only [and_true] at hd); (try simp only [true_and] at hd); simp [yielded, hd]; done)))); (focus (intro u w1 hw hd; (try simp only [depH] at hd); (try simp only [ext] at hd); (try simp only [extU] at hd); (try simp only [Nat.reduceAdd] at hd); (try simp only [Nat.reduceEqDiff] at hd); (try simp only [reduceIte] at hd); (try simp only [and_true] at hd); (try simp only [true_and] at hd); have hc' := hw.cell; first | (go_simp; exact rfl) | (go_simp; go_at_call 30; ((with_reducible refine (c0 _).mono ?_)); rintro e w'' ⟨rfl, hb⟩; refine ⟨?_, hb⟩; exact rfl) | (go_simp; go_at_call 64; ((with_reducible refine (c1 _).mono ?_)); rintro e w'' ⟨rfl, hb⟩; refine ⟨?_, hb⟩; exact rfl) | (go_simp; go_at_call 78; ((with_reducible refine (c2 _).mono ?_)); rintro e w'' ⟨rfl, hb⟩; refine ⟨?_, hb⟩; exact rfl) | (go_simp; go_at_call 79; ((with_reducible refine (c3 _).mono ?_)); rintro e w'' ⟨rfl, hb⟩; refine ⟨?_, hb⟩; exact rfl) | (go_simp; go_at_call 63; ((with_reducible refine (c4 _).mono ?_)); rintro e w'' ⟨rfl, hb⟩; refine ⟨?_, hb⟩; exact rfl)))) | ((with_reducible refine flow_skipg (j := ?_) (b := ?_) ?_ ?_ ?_); rotate_left 2; (focus (with_reducible rfl)); (focus (intro u w1 hw hd; (try simp only [depH] at hd); (try simp only [ext] at hd); (try simp only [extU] at hd); (try simp only [Nat.reduceAdd] at hd); (try simp only [Nat.reduceEqDiff] at hd); (try simp only [reduceIte] at hd); (try simp only [and_true] at hd); (try simp only [true_and] at hd); simp [yielded, hd]; done))) | ((with_reducible refine flow_alloc (t := ?_) (zs := ?_) ?_ ?_ ?_ ?_); rotate_left 2; (focus (with_reducible rfl)); (focus rfl); (focus (intro u w1; go_simp; exact rfl)))))
  (try clear hc hf h); intro u w' h ha hdi; replace h := h.ins; (try simp only [World.size_alloc] at h); (try dsimp only at ha); (repeat rw [World.size_alloc] at ha); (try simp only [allH] at ha); (try simp only [ext] at ha); (try simp only [extU] at ha); (try simp only [Nat.reduceAdd] at ha); (try simp only [Nat.reduceEqDiff] at ha); (try simp only [reduceIte] at ha); (try simp only [and_true] at ha); (try simp only [true_and] at ha); have hc := h.cell; have hf := h.frozen
  obtain ⟨ha, G, hu, hGN, bg1⟩ := ha
  (try obtain ha := ha); (try dsimp only);  simp only [ha, hu]; clear ha hdi hu
  replace h := h.out h0 h0.siz
  have n0 : ¬ G = w.heap.size := by omega
  have n1 : ¬ w.heap.size = G := by omega
  have n2 : ¬ G = w.heap.size + 1 := by omega
  have n3 : ¬ w.heap.size + 1 = G := by omega
  have n4 : ¬ G = w.heap.size + 1 + 1 := by omega
  have n5 : ¬ w.heap.size + 1 + 1 = G := by omega
  have hNG : w.heap.size + 1 + 1 + 1 ≤ G := by omega
  have g0 := bg1.c0
  have g1 := bg1.c1
  have g2 := bg1.c2
  have g3 := bg1.c3
  have g4 := bg1.c4
  have f0 := bg1.frozen 0
  have f1 := bg1.frozen 1
  have f2 := bg1.frozen 2
  have f3 := bg1.frozen 3
  have f4 := bg1.frozen 4
  clear hc hf h0 hz0 hz1 hz2 bg1 hGN
  have hc := h.cell
  have hf := h.frozen
  go_upto_region 4 with fail
  go_wp2_with fail
  ((with_reducible refine (c5 _).mono ?_))
  rintro e w' ⟨rfl, hb⟩
  replace h := ((((((h.setCell (p := ⟨G, 0, none⟩) hNG (.int .u64 (lo b'.num.natAbs))).setCell (p := ⟨G, 1, none⟩) hNG (.string (bg b'.num.natAbs))).setCell (p := ⟨G, 2, none⟩) hNG (.bool (decide (b'.num < 0)))).setCell (p := ⟨G, 3, none⟩) hNG (.int .u64 (lo (b'.den - 1)))).setCell (p := ⟨G, 4, none⟩) hNG (.string (bg (b'.den - 1)))).call hb)
  clear hc hf hb
  have hc := h.cell
  have hf := h.frozen
  go_wp2_with fail
  exact bodyPost_ret (v := .tuple #[fracV q, .int .i64 0]) (by simp [results, Tryz.results45, go_sem, hc]) rfl ⟨rfl, by (refine In.bel ?_; (repeat (first | (refine In.setCell ?_ (by first | omega | (simp; done) | (simp; omega)) _) | (refine In.alloc ?_ _) | (refine In.drew ?_))); (first | exact In.self _ | (refine In.out h ?_ (by first | omega | (simp; done) | (simp; omega)); (repeat (first | (refine In.setCell ?_ (by first | omega | (simp; done) | (simp; omega)) _) | (refine In.alloc ?_ _) | (refine In.drew ?_))); exact In.self _)))⟩
set_option maxRecDepth 100000 in
set_option maxHeartbeats 1000000 in
/-- fracs.Of -/
theorem fracOf_any (n d : Int) (hn0 : -9223372036854775808 ≤ n) (hn1 : n < 9223372036854775808) (hd0 : -9223372036854775808 ≤ d) (hd1 : d < 9223372036854775808) (hd : d ≠ 0) (w : World) :
    Calls Tryz.prog 18 #[.int .i64 n, .int .i64 d] w fun e w' => e = .returned (.tuple #[fracV ((n : Rat) / (d : Rat)), .int .i64 0]) ∧ Below w.heap.size w w' := by
  have h1 := fracInt_any n hn0 hn1
  have h2 := fracInt_any d hd0 hd1
  have hz : ∀ z : Int, -9223372036854775808 ≤ z → z < 9223372036854775808 → SzK 64 (z : Rat) := fun z h1 h2 => by
    constructor
    · rw [Rat.num_intCast]
      have : (2 : Nat) ^ 64 = 18446744073709551616 := by decide
      omega
    · rw [Rat.den_intCast]; decide
  have h3 := fdiv_any (n : Rat) (d : Rat) (fun h => hd (Rat.intCast_eq_zero_iff.1 h)) (hz n hn0 hn1) (hz d hd0 hd1) (by decide)
  clear hn0 hn1 hd0 hd1 hd hz
  go_enter Tryz.func18, Tryz.ntmps18
  go_wp2_with fail
  (refine (h1 _).mono ?_; rintro e w' ⟨rfl, hb⟩; have h := (In.self _).call hb; (try simp only [World.size_alloc] at h); (try simp only [World.size_setCell] at h); clear hb; have hc := h.cell; have hf := h.frozen)
  go_wp2_with fail
  (refine (h2 _).mono ?_; rintro e w' ⟨rfl, hb⟩; replace h := In.call (by first | exact h | exact h.drew | exact h.alloc _ | exact (h.alloc _).alloc _ | exact ((h.alloc _).alloc _).alloc _) hb; clear hb hc hf; have hc := h.cell; have hf := h.frozen)
  go_wp2_with fail
  (refine (h3 _).mono ?_; rintro e w' ⟨rfl, hb⟩; replace h := In.call (by first | exact h | exact h.drew | exact h.alloc _ | exact (h.alloc _).alloc _ | exact ((h.alloc _).alloc _).alloc _) hb; clear hb hc hf; have hc := h.cell; have hf := h.frozen)
  go_wp2_with fail
  exact bodyPost_ret (v := .tuple #[fracV ((n : Rat) / (d : Rat)), .int .i64 0]) (by simp [results, Tryz.results18, go_sem, hc]) rfl ⟨rfl, by (refine In.bel ?_; (repeat (first | (refine In.setCell ?_ (by first | omega | (simp; done) | (simp; omega)) _) | (refine In.alloc ?_ _) | (refine In.drew ?_))); (first | exact In.self _ | (refine In.out h ?_ (by first | omega | (simp; done) | (simp; omega)); (repeat (first | (refine In.setCell ?_ (by first | omega | (simp; done) | (simp; omega)) _) | (refine In.alloc ?_ _) | (refine In.drew ?_))); exact In.self _)))⟩
end Gus
end
section
/- Fractions of a statement's input; sizes; positions. -/
namespace Gus
open Go Go.RowKit Go.Proofs
/-- the fraction of a statement's input -/
def qOf (n d : Int) : Rat := (n : Rat) / ((max d 1 : Int) : Rat)
set_option maxRecDepth 100000 in
set_option maxHeartbeats 1000000 in
theorem qOf_any (n d : Int) (hn0 : -9223372036854775808 ≤ n) (hn1 : n < 9223372036854775808) (hd0 : 0 ≤ d) (hd1 : d < 4294967296) (w : World) :
    Calls Tryz.prog 10 #[.agg #[.int .i64 n, .int .u32 d]] w fun e w' => e = .returned (fracV (qOf n d)) ∧ Below w.heap.size w w' := by
  have h1 := fracOf_any n (max d 1) hn0 hn1 (by omega) (by omega) (by omega)
  unfold qOf
  obtain ⟨q, hq⟩ : ∃ q, q = (n : Rat) / ((max d 1 : Int) : Rat) := ⟨_, rfl⟩
  rw [← hq] at h1 ⊢
  have hw1 : IntKind.i64.wrap (max d 1) = max d 1 := IntWalk.i64_in _ (by omega)
  clear hq
  go_enter Tryz.func10, Tryz.ntmps10
  go_wp2_with fail
  (((with_reducible refine (h1 _).mono ?_)); rintro e w' ⟨rfl, hb⟩; have h := (In.self _).call hb; (try simp only [World.size_alloc] at h); (try simp only [World.size_setCell] at h); clear hb; have hc := h.cell; have hf := h.frozen)
  have hz0 : w.heap.size < w'.heap.size := (by have := h.siz; omega); have hz1 : w.heap.size + 1 < w'.heap.size := (by have := h.siz; omega)
  go_wp2_with fail
  exact bodyPost_ret (v := fracV q) (by simp [results, Tryz.results10, go_sem, *]) rfl ⟨rfl, by (refine In.bel ?_; (repeat (first | (refine In.setCell ?_ (by first | omega | (simp; done) | (simp; omega)) _) | (refine In.alloc ?_ _) | (refine In.drew ?_))); (first | exact In.self _ | (refine In.out h ?_ (by first | omega | (simp; done) | (simp; omega)); (repeat (first | (refine In.setCell ?_ (by first | omega | (simp; done) | (simp; omega)) _) | (refine In.alloc ?_ _) | (refine In.drew ?_))); exact In.self _)))⟩
theorem has_any (i n : Int) (w : World) :
    Calls Tryz.prog 28 #[.int .i64 i, .int .i64 n] w fun e w' => e = .returned (.bool (decide (0 ≤ i) && decide (i < n))) ∧ Below w.heap.size w w' := by
  by_cases h0 : 0 ≤ i
  · have e : (decide (0 ≤ i) && decide (i < n)) = decide (i < n) := by rw [decide_eq_true h0, Bool.true_and]
    rw [e]
    clear e
    go_enter Tryz.func28, Tryz.ntmps28
    go_wp2_with fail
    go_ret
    exact ⟨rfl, by (refine In.bel ?_; (repeat (first | (refine In.setCell ?_ (by first | omega | (simp; done) | (simp; omega)) _) | (refine In.alloc ?_ _) | (refine In.drew ?_))); (first | exact In.self _ | (refine In.out h ?_ (by first | omega | (simp; done) | (simp; omega)); (repeat (first | (refine In.setCell ?_ (by first | omega | (simp; done) | (simp; omega)) _) | (refine In.alloc ?_ _) | (refine In.drew ?_))); exact In.self _)))⟩
  · have e : (decide (0 ≤ i) && decide (i < n)) = false := by rw [decide_eq_false h0, Bool.false_and]
    rw [e]
    clear e
    go_enter Tryz.func28, Tryz.ntmps28
    go_wp2_with fail
    go_ret
    exact ⟨rfl, by (refine In.bel ?_; (repeat (first | (refine In.setCell ?_ (by first | omega | (simp; done) | (simp; omega)) _) | (refine In.alloc ?_ _) | (refine In.drew ?_))); (first | exact In.self _ | (refine In.out h ?_ (by first | omega | (simp; done) | (simp; omega)); (repeat (first | (refine In.setCell ?_ (by first | omega | (simp; done) | (simp; omega)) _) | (refine In.alloc ?_ _) | (refine In.drew ?_))); exact In.self _)))⟩
def sidesE (n m : Int) : Int := if n < 0 ∨ m < 0 then 1 else if 2048 < n ∨ 2048 < m then 3 else 0
set_option maxRecDepth 100000 in
set_option maxHeartbeats 1000000 in
theorem sides_any (n m : Int) (w : World) :
    Calls Tryz.prog 24 #[.int .i64 n, .int .i64 m] w fun e w' => e = .returned (.int .i64 (sidesE n m)) ∧ Below w.heap.size w w' := by
  unfold sidesE
  by_cases h1 : n < 0 <;> by_cases h2 : m < 0 <;> by_cases h3 : 2048 < n <;> by_cases h4 : 2048 < m <;> simp only [h1, h2, h3, h4, or_true, or_false, if_true, if_false, or_self]
  all_goals
    go_enter Tryz.func24, Tryz.ntmps24
    go_wp2_with fail
    go_ret
    exact ⟨rfl, by (refine In.bel ?_; (repeat (first | (refine In.setCell ?_ (by first | omega | (simp; done) | (simp; omega)) _) | (refine In.alloc ?_ _) | (refine In.drew ?_))); (first | exact In.self _ | (refine In.out h ?_ (by first | omega | (simp; done) | (simp; omega)); (repeat (first | (refine In.setCell ?_ (by first | omega | (simp; done) | (simp; omega)) _) | (refine In.alloc ?_ _) | (refine In.drew ?_))); exact In.self _)))⟩
end Gus
end
