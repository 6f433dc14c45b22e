import Derived.Test.YtjbclomfocnplaaGreatDoorInt
/- Sums and products of integers. -/
namespace Gus
open Go Go.RowKit Go.Proofs
set_option maxRecDepth 100000 in
set_option maxHeartbeats 1000000 in
theorem plus_same (a b : Int) (ha : Wl a.natAbs) (hb : Wl b.natAbs) (p : Bool) (hp : decide (a < 0) = p) (hq : decide (b < 0) = p) (w : World) :
    Calls Tryz.prog 179 #[intV a, intV b] w fun e w' => e = .returned (intV (a + b)) ∧ Below w.heap.size w w' := by
  have hs := sgn_add_same hp hq
  have hA := add_any a.natAbs b.natAbs ha hb
  have hF := from_any p (a.natAbs + b.natAbs)
  rw [hs] at hF
  rw [intV, intV, hp, hq]
  clear hs hp hq ha hb
  go_enter Tryz.func179, Tryz.ntmps179
  go_wp2_with fail
  refine wp_region_tail (In _ _) 10 (by kernel_rfl) (by kernel_rfl) (In.drew (In.self _)) ?_; simp only [List.take_succ_cons, List.take_zero, List.drop_succ_cons, List.drop_zero]; (repeat (first | ((with_reducible refine wpQuiet_run0 (v := ?_) ?_ ?_ ?_); rotate_left 1; (focus (with_reducible rfl)); (focus (intro w' hw'; have hc' := hw'.cell; go_simp; exact rfl)); (try simp only [Act.put]); (try simp only [List.setIfInBounds_toArray]); (try simp only [List.set])) | ((with_reducible refine wpQuiet_skipg (j := ?_) (b := ?_) ?_ ?_ ?_); rotate_left 2; (focus (with_reducible rfl)); (focus rfl); (try simp only [Act.put]); (try simp only [List.setIfInBounds_toArray]); (try simp only [List.set])) | ((with_reducible refine wpQuiet_rung (v := ?_) (j := ?_) (b := ?_) ?_ ?_ ?_ ?_); rotate_left 3; (focus (with_reducible rfl)); (focus rfl); (focus (intro w' hw'; have hc' := hw'.cell; go_simp; exact rfl)); (try simp only [Act.put]); (try simp only [List.setIfInBounds_toArray]); (try simp only [List.set])) | ((with_reducible refine wpQuiet_run0 (v := ?_) ?_ ?_ ?_); rotate_left 1; (focus (with_reducible rfl)); (focus (intro w' hw'; (try simp only [World.size_alloc] at hw'); go_simp; go_at_call 172; refine (hA _).mono ?_; rintro e w'' ⟨rfl, hb⟩; refine ⟨?_, hw'.call hb⟩; exact rfl)); (try simp only [Act.put]); (try simp only [List.setIfInBounds_toArray]); (try simp only [List.set])) | ((with_reducible refine wpQuiet_rung (v := ?_) (j := ?_) (b := ?_) ?_ ?_ ?_ ?_); rotate_left 3; (focus (with_reducible rfl)); (focus rfl); (focus (intro w' hw'; (try simp only [World.size_alloc] at hw'); go_simp; go_at_call 172; refine (hA _).mono ?_; rintro e w'' ⟨rfl, hb⟩; refine ⟨?_, hw'.call hb⟩; exact rfl)); (try simp only [Act.put]); (try simp only [List.setIfInBounds_toArray]); (try simp only [List.set])) | ((with_reducible refine wpQuiet_run0 (v := ?_) ?_ ?_ ?_); rotate_left 1; (focus (with_reducible rfl)); (focus (intro w' hw'; (try simp only [World.size_alloc] at hw'); go_simp; go_at_call 89; refine (hF _).mono ?_; rintro e w'' ⟨rfl, hb⟩; refine ⟨?_, hw'.call hb⟩; exact rfl)); (try simp only [Act.put]); (try simp only [List.setIfInBounds_toArray]); (try simp only [List.set])) | ((with_reducible refine wpQuiet_rung (v := ?_) (j := ?_) (b := ?_) ?_ ?_ ?_ ?_); rotate_left 3; (focus (with_reducible rfl)); (focus rfl); (focus (intro w' hw'; (try simp only [World.size_alloc] at hw'); go_simp; go_at_call 89; refine (hF _).mono ?_; rintro e w'' ⟨rfl, hb⟩; refine ⟨?_, hw'.call hb⟩; exact rfl)); (try simp only [Act.put]); (try simp only [List.setIfInBounds_toArray]); (try simp only [List.set])))); refine wpQuiet_nil ?_; (try clear hc hf h); intro w' h; (try simp only [World.size_alloc] at h); have hc := h.cell; have hf := h.frozen
  go_wp2_with fail
  exact bodyPost_ret (v := intV (a + b)) (by simp [results, Tryz.results179, go_sem, *]) rfl ⟨rfl, by (refine In.bel ?_; (repeat (first | (refine In.setCell ?_ (by first | omega | (simp; done) | (simp; omega)) _) | (refine In.alloc ?_ _) | (refine In.drew ?_))); (first | exact In.self _ | (refine In.out h ?_ (by first | omega | (simp; done) | (simp; omega)); (repeat (first | (refine In.setCell ?_ (by first | omega | (simp; done) | (simp; omega)) _) | (refine In.alloc ?_ _) | (refine In.drew ?_))); exact In.self _)))⟩
set_option maxRecDepth 100000 in
set_option maxHeartbeats 1000000 in
theorem plus_ge (a b : Int) (ha : Wl a.natAbs) (hb : Wl b.natAbs) (p : Bool) (hp : decide (a < 0) = p) (hq : decide (b < 0) = !p) (h : b.natAbs ≤ a.natAbs) (w : World) :
    Calls Tryz.prog 179 #[intV a, intV b] w fun e w' => e = .returned (intV (a + b)) ∧ Below w.heap.size w w' := by
  have hs := sgn_sub_ge hp hq h
  have hA := sub_ge a.natAbs b.natAbs h ha hb
  have hF := from_any p (a.natAbs - b.natAbs)
  rw [hs] at hF
  rw [intV, intV, hp, hq]
  clear hs hp hq ha hb
  obtain ⟨q, hq⟩ : ∃ q, q = !p := ⟨_, rfl⟩
  have hpq : (p == q) = false := by subst hq; cases p <;> rfl
  rw [← hq]
  clear hq h
  go_enter Tryz.func179, Tryz.ntmps179
  go_wp2_with fail
  (refine (hA _).mono ?_; rintro e w' ⟨rfl, hb⟩; have h := (In.self _).call hb; (try simp only [World.size_alloc] at h); (try simp only [World.size_setCell] at h); clear hb; have hc := h.cell; have hf := h.frozen)
  have hz0 : w.heap.size < w'.heap.size := (by have := h.siz; omega); have hz1 : w.heap.size + 1 < w'.heap.size := (by have := h.siz; omega); have hz2 : w.heap.size + 1 + 1 < w'.heap.size := (by have := h.siz; omega)
  go_wp2_with fail
  (refine (hF _).mono ?_; rintro e w' ⟨rfl, hb⟩; replace h := In.call (by first | exact h | exact h.drew | exact h.alloc _ | exact (h.alloc _).alloc _ | exact ((h.alloc _).alloc _).alloc _) hb; clear hb hc hf; have hc := h.cell; have hf := h.frozen)
  go_wp2_with fail
  exact bodyPost_ret (v := intV (a + b)) (by simp [results, Tryz.results179, go_sem, *]) rfl ⟨rfl, by (refine In.bel ?_; (repeat (first | (refine In.setCell ?_ (by first | omega | (simp; done) | (simp; omega)) _) | (refine In.alloc ?_ _) | (refine In.drew ?_))); (first | exact In.self _ | (refine In.out h ?_ (by first | omega | (simp; done) | (simp; omega)); (repeat (first | (refine In.setCell ?_ (by first | omega | (simp; done) | (simp; omega)) _) | (refine In.alloc ?_ _) | (refine In.drew ?_))); exact In.self _)))⟩
set_option maxRecDepth 100000 in
set_option maxHeartbeats 1000000 in
theorem plus_lt (a b : Int) (ha : Wl a.natAbs) (hb : Wl b.natAbs) (p : Bool) (hp : decide (a < 0) = p) (hq : decide (b < 0) = !p) (h : a.natAbs < b.natAbs) (w : World) :
    Calls Tryz.prog 179 #[intV a, intV b] w fun e w' => e = .returned (intV (a + b)) ∧ Below w.heap.size w w' := by
  have hs := sgn_sub_ge (p := !p) hq (by rw [hp, Bool.not_not]) (Nat.le_of_lt h)
  have hA := sub_lt a.natAbs b.natAbs h ha hb
  have hB := sub_ge b.natAbs a.natAbs (Nat.le_of_lt h) hb ha
  obtain ⟨q, hqq⟩ : ∃ q, q = !p := ⟨_, rfl⟩
  have hpq : (p == q) = false := by subst hqq; cases p <;> rfl
  rw [← hqq] at hs hq
  have hF := from_any q (b.natAbs - a.natAbs)
  rw [hs, Int.add_comm] at hF
  rw [intV, intV, hp, hq]
  clear hs hp hq ha hb hqq h
  go_enter Tryz.func179, Tryz.ntmps179
  go_wp2_with fail
  (refine (hA _).mono ?_; rintro e w' ⟨rfl, hb⟩; have h := (In.self _).call hb; (try simp only [World.size_alloc] at h); (try simp only [World.size_setCell] at h); clear hb; have hc := h.cell; have hf := h.frozen)
  have hz0 : w.heap.size < w'.heap.size := (by have := h.siz; omega); have hz1 : w.heap.size + 1 < w'.heap.size := (by have := h.siz; omega); have hz2 : w.heap.size + 1 + 1 < w'.heap.size := (by have := h.siz; omega)
  go_wp2_with fail
  (refine (hB _).mono ?_; rintro e w' ⟨rfl, hb⟩; replace h := In.call (by first | exact h | exact h.drew | exact h.alloc _ | exact (h.alloc _).alloc _ | exact ((h.alloc _).alloc _).alloc _) hb; clear hb hc hf; have hc := h.cell; have hf := h.frozen)
  clear hz0 hz1 hz2
  have hz0 : w.heap.size < w'.heap.size := (by have := h.siz; omega); have hz1 : w.heap.size + 1 < w'.heap.size := (by have := h.siz; omega); have hz2 : w.heap.size + 1 + 1 < w'.heap.size := (by have := h.siz; omega)
  go_wp2_with fail
  (refine (hF _).mono ?_; rintro e w' ⟨rfl, hb⟩; replace h := In.call (by first | exact h | exact h.drew | exact h.alloc _ | exact (h.alloc _).alloc _ | exact ((h.alloc _).alloc _).alloc _) hb; clear hb hc hf; have hc := h.cell; have hf := h.frozen)
  go_wp2_with fail
  exact bodyPost_ret (v := intV (a + b)) (by simp [results, Tryz.results179, go_sem, *]) rfl ⟨rfl, by (refine In.bel ?_; (repeat (first | (refine In.setCell ?_ (by first | omega | (simp; done) | (simp; omega)) _) | (refine In.alloc ?_ _) | (refine In.drew ?_))); (first | exact In.self _ | (refine In.out h ?_ (by first | omega | (simp; done) | (simp; omega)); (repeat (first | (refine In.setCell ?_ (by first | omega | (simp; done) | (simp; omega)) _) | (refine In.alloc ?_ _) | (refine In.drew ?_))); exact In.self _)))⟩
theorem plus_any (a b : Int) (ha : Wl a.natAbs) (hb : Wl b.natAbs) (w : World) :
    Calls Tryz.prog 179 #[intV a, intV b] w fun e w' => e = .returned (intV (a + b)) ∧ Below w.heap.size w w' := by
  by_cases hs : decide (b < 0) = decide (a < 0)
  · exact plus_same a b ha hb _ rfl hs w
  · have hs' : decide (b < 0) = !decide (a < 0) := by
      cases h1 : decide (b < 0) <;> cases h2 : decide (a < 0) <;> simp [h1, h2] at hs ⊢
    by_cases h : b.natAbs ≤ a.natAbs
    · exact plus_ge a b ha hb _ rfl hs' h w
    · exact plus_lt a b ha hb _ rfl hs' (by omega) w
set_option maxRecDepth 100000 in
set_option maxHeartbeats 1000000 in
theorem times_any (a b : Int) (ha : Wl a.natAbs) (hb : Wl b.natAbs) (w : World) :
    Calls Tryz.prog 163 #[intV a, intV b] w fun e w' => e = .returned (intV (a * b)) ∧ Below w.heap.size w w' := by
  have hs := sgn_mul (a := a) (b := b)
  have hA := mul_any a.natAbs b.natAbs ha hb
  obtain ⟨p, hp⟩ : ∃ p, p = decide (a < 0) := ⟨_, rfl⟩
  obtain ⟨q, hq⟩ : ∃ q, q = decide (b < 0) := ⟨_, rfl⟩
  rw [intV, intV, ← hp, ← hq]
  rw [← hp, ← hq] at hs
  obtain ⟨r, hr⟩ : ∃ r, (p != q) = r := ⟨_, rfl⟩
  rw [hr] at hs
  have hF := from_any r (a.natAbs * b.natAbs)
  rw [hs] at hF
  clear hp hq ha hb hs
  cases p <;> cases q <;> cases r <;> first
    | (exact absurd hr (by decide))
    | (clear hr
       go_enter Tryz.func163, Tryz.ntmps163
       go_wp2_with fail
       refine wp_region_tail (In _ _) 13 (by kernel_rfl) (by kernel_rfl) (In.drew (In.self _)) ?_; simp only [List.take_succ_cons, List.take_zero, List.drop_succ_cons, List.drop_zero]; (repeat (first | ((with_reducible refine wpQuiet_run0 (v := ?_) ?_ ?_ ?_); rotate_left 1; (focus (with_reducible rfl)); (focus (intro w' hw'; have hc' := hw'.cell; go_simp; exact rfl)); (try simp only [Act.put]); (try simp only [List.setIfInBounds_toArray]); (try simp only [List.set])) | ((with_reducible refine wpQuiet_skipg (j := ?_) (b := ?_) ?_ ?_ ?_); rotate_left 2; (focus (with_reducible rfl)); (focus rfl); (try simp only [Act.put]); (try simp only [List.setIfInBounds_toArray]); (try simp only [List.set])) | ((with_reducible refine wpQuiet_rung (v := ?_) (j := ?_) (b := ?_) ?_ ?_ ?_ ?_); rotate_left 3; (focus (with_reducible rfl)); (focus rfl); (focus (intro w' hw'; have hc' := hw'.cell; go_simp; exact rfl)); (try simp only [Act.put]); (try simp only [List.setIfInBounds_toArray]); (try simp only [List.set])) | ((with_reducible refine wpQuiet_run0 (v := ?_) ?_ ?_ ?_); rotate_left 1; (focus (with_reducible rfl)); (focus (intro w' hw'; (try simp only [World.size_alloc] at hw'); go_simp; go_at_call 85; refine (hA _).mono ?_; rintro e w'' ⟨rfl, hb⟩; refine ⟨?_, hw'.call hb⟩; exact rfl)); (try simp only [Act.put]); (try simp only [List.setIfInBounds_toArray]); (try simp only [List.set])) | ((with_reducible refine wpQuiet_rung (v := ?_) (j := ?_) (b := ?_) ?_ ?_ ?_ ?_); rotate_left 3; (focus (with_reducible rfl)); (focus rfl); (focus (intro w' hw'; (try simp only [World.size_alloc] at hw'); go_simp; go_at_call 85; refine (hA _).mono ?_; rintro e w'' ⟨rfl, hb⟩; refine ⟨?_, hw'.call hb⟩; exact rfl)); (try simp only [Act.put]); (try simp only [List.setIfInBounds_toArray]); (try simp only [List.set])) | ((with_reducible refine wpQuiet_run0 (v := ?_) ?_ ?_ ?_); rotate_left 1; (focus (with_reducible rfl)); (focus (intro w' hw'; (try simp only [World.size_alloc] at hw'); go_simp; go_at_call 89; refine (hF _).mono ?_; rintro e w'' ⟨rfl, hb⟩; refine ⟨?_, hw'.call hb⟩; exact rfl)); (try simp only [Act.put]); (try simp only [List.setIfInBounds_toArray]); (try simp only [List.set])) | ((with_reducible refine wpQuiet_rung (v := ?_) (j := ?_) (b := ?_) ?_ ?_ ?_ ?_); rotate_left 3; (focus (with_reducible rfl)); (focus rfl); (focus (intro w' hw'; (try simp only [World.size_alloc] at hw'); go_simp; go_at_call 89; refine (hF _).mono ?_; rintro e w'' ⟨rfl, hb⟩; refine ⟨?_, hw'.call hb⟩; exact rfl)); (try simp only [Act.put]); (try simp only [List.setIfInBounds_toArray]); (try simp only [List.set])))); refine wpQuiet_nil ?_; (try clear hc hf h); intro w' h; (try simp only [World.size_alloc] at h); have hc := h.cell; have hf := h.frozen
       go_wp2_with fail
       exact bodyPost_ret (v := intV (a * b)) (by simp [results, Tryz.results163, go_sem, *]) rfl ⟨rfl, by (refine In.bel ?_; (repeat (first | (refine In.setCell ?_ (by first | omega | (simp; done) | (simp; omega)) _) | (refine In.alloc ?_ _) | (refine In.drew ?_))); (first | exact In.self _ | (refine In.out h ?_ (by first | omega | (simp; done) | (simp; omega)); (repeat (first | (refine In.setCell ?_ (by first | omega | (simp; done) | (simp; omega)) _) | (refine In.alloc ?_ _) | (refine In.drew ?_))); exact In.self _)))⟩)
set_option maxRecDepth 100000 in
theorem told_plus (a b : Int) (ha : Wl a.natAbs) (hb : Wl b.natAbs) (w : World) :
    Calls Tryz.prog 162 #[.func (.func 179) #[] #[], intV a, intV b] w fun e w' => e = .returned (intV (a + b)) ∧ Below w.heap.size w w' := by
  have hA := plus_any a b ha hb
  clear ha hb
  go_enter Tryz.func162, Tryz.ntmps162
  go_wp2_with fail
  (refine (hA _).mono ?_; rintro e w' ⟨rfl, hb⟩; have h := (In.self _).call hb; (try simp only [World.size_alloc] at h); (try simp only [World.size_setCell] at h); clear hb; have hc := h.cell; have hf := h.frozen)
  go_wp2_with fail
  exact bodyPost_ret (v := intV (a + b)) (by simp [results, Tryz.results162, go_sem, *]) rfl ⟨rfl, by (refine In.bel ?_; (repeat (first | (refine In.setCell ?_ (by first | omega | (simp; done) | (simp; omega)) _) | (refine In.alloc ?_ _) | (refine In.drew ?_))); (first | exact In.self _ | (refine In.out h ?_ (by first | omega | (simp; done) | (simp; omega)); (repeat (first | (refine In.setCell ?_ (by first | omega | (simp; done) | (simp; omega)) _) | (refine In.alloc ?_ _) | (refine In.drew ?_))); exact In.self _)))⟩
set_option maxRecDepth 100000 in
theorem told_times (a b : Int) (ha : Wl a.natAbs) (hb : Wl b.natAbs) (w : World) :
    Calls Tryz.prog 162 #[.func (.func 163) #[] #[], intV a, intV b] w fun e w' => e = .returned (intV (a * b)) ∧ Below w.heap.size w w' := by
  have hA := times_any a b ha hb
  clear ha hb
  go_enter Tryz.func162, Tryz.ntmps162
  go_wp2_with fail
  (refine (hA _).mono ?_; rintro e w' ⟨rfl, hb⟩; have h := (In.self _).call hb; (try simp only [World.size_alloc] at h); (try simp only [World.size_setCell] at h); clear hb; have hc := h.cell; have hf := h.frozen)
  go_wp2_with fail
  exact bodyPost_ret (v := intV (a * b)) (by simp [results, Tryz.results162, go_sem, *]) rfl ⟨rfl, by (refine In.bel ?_; (repeat (first | (refine In.setCell ?_ (by first | omega | (simp; done) | (simp; omega)) _) | (refine In.alloc ?_ _) | (refine In.drew ?_))); (first | exact In.self _ | (refine In.out h ?_ (by first | omega | (simp; done) | (simp; omega)); (repeat (first | (refine In.setCell ?_ (by first | omega | (simp; done) | (simp; omega)) _) | (refine In.alloc ?_ _) | (refine In.drew ?_))); exact In.self _)))⟩
set_option maxRecDepth 100000 in
theorem iadd_any (a b : Int) (ha : Wl a.natAbs) (hb : Wl b.natAbs) (w : World) :
    Calls Tryz.prog 104 #[intV a, intV b] w fun e w' => e = .returned (intV (a + b)) ∧ Below w.heap.size w w' := by
  have hA := told_plus a b ha hb
  clear ha hb
  go_enter Tryz.func104, Tryz.ntmps104
  go_wp2_with fail
  (refine (hA _).mono ?_; rintro e w' ⟨rfl, hb⟩; have h := (In.self _).call hb; (try simp only [World.size_alloc] at h); (try simp only [World.size_setCell] at h); clear hb; have hc := h.cell; have hf := h.frozen)
  go_wp2_with fail
  exact bodyPost_ret (v := intV (a + b)) (by simp [results, Tryz.results104, go_sem, *]) rfl ⟨rfl, by (refine In.bel ?_; (repeat (first | (refine In.setCell ?_ (by first | omega | (simp; done) | (simp; omega)) _) | (refine In.alloc ?_ _) | (refine In.drew ?_))); (first | exact In.self _ | (refine In.out h ?_ (by first | omega | (simp; done) | (simp; omega)); (repeat (first | (refine In.setCell ?_ (by first | omega | (simp; done) | (simp; omega)) _) | (refine In.alloc ?_ _) | (refine In.drew ?_))); exact In.self _)))⟩
set_option maxRecDepth 100000 in
theorem imul_any (a b : Int) (ha : Wl a.natAbs) (hb : Wl b.natAbs) (w : World) :
    Calls Tryz.prog 83 #[intV a, intV b] w fun e w' => e = .returned (intV (a * b)) ∧ Below w.heap.size w w' := by
  have hA := told_times a b ha hb
  clear ha hb
  go_enter Tryz.func83, Tryz.ntmps83
  go_wp2_with fail
  (refine (hA _).mono ?_; rintro e w' ⟨rfl, hb⟩; have h := (In.self _).call hb; (try simp only [World.size_alloc] at h); (try simp only [World.size_setCell] at h); clear hb; have hc := h.cell; have hf := h.frozen)
  go_wp2_with fail
  exact bodyPost_ret (v := intV (a * b)) (by simp [results, Tryz.results83, go_sem, *]) rfl ⟨rfl, by (refine In.bel ?_; (repeat (first | (refine In.setCell ?_ (by first | omega | (simp; done) | (simp; omega)) _) | (refine In.alloc ?_ _) | (refine In.drew ?_))); (first | exact In.self _ | (refine In.out h ?_ (by first | omega | (simp; done) | (simp; omega)); (repeat (first | (refine In.setCell ?_ (by first | omega | (simp; done) | (simp; omega)) _) | (refine In.alloc ?_ _) | (refine In.drew ?_))); exact In.self _)))⟩
end Gus
