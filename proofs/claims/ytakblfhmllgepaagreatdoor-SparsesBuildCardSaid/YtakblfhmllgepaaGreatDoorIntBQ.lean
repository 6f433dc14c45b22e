/- Proved here: parts of the proof: IntB Frac. Conditions: those that each theorem states. -/
import Derived.Test.YtakblfhmllgepaaGreatDoorBoxQ
section
/- Sums and products of integers. -/
namespace Gus
open Go Go.RowKit Go.Proofs
set_option maxRecDepth 100000 in
set_option maxHeartbeats 1000000 in
theorem plus_same (a b : Int) (ha : Wl a.natAbs) (hb : Wl b.natAbs) (p : Bool) (hp : decide (a < 0) = p) (hq : decide (b < 0) = p) (w : World) :
    Calls Tryz.prog 96 #[intV a, intV b] w fun e w' => e = .returned (intV (a + b)) ∧ Below w.heap.size w w' := by
  have hs := sgn_add_same hp hq
  have hA := add_any a.natAbs b.natAbs ha hb
  have hF := from_any p (a.natAbs + b.natAbs)
  rw [hs] at hF
  rw [intV, intV, hp, hq]
  clear hs hp hq ha hb
  go_enter Tryz.func96, Tryz.ntmps96
  go_wp2_with fail
  refine wp_region_tail (In _ _) 10 (by kernel_rfl) (by kernel_rfl) (In.drew (In.self _)) ?_; simp only [List.take_succ_cons, List.take_zero, List.drop_succ_cons, List.drop_zero]; (repeat (first | ((with_reducible refine wpQuiet_run0 (v := ?_) ?_ ?_ ?_); rotate_left 1; (focus (with_reducible rfl)); (focus (intro w' hw'; have hc' := hw'.cell; go_simp; exact rfl)); (try simp only [Act.put]); (try simp only [List.setIfInBounds_toArray]); (try simp only [List.set])) | ((with_reducible refine wpQuiet_skipg (j := ?_) (b := ?_) ?_ ?_ ?_); rotate_left 2; (focus (with_reducible rfl)); (focus rfl); (try simp only [Act.put]); (try simp only [List.setIfInBounds_toArray]); (try simp only [List.set])) | ((with_reducible refine wpQuiet_rung (v := ?_) (j := ?_) (b := ?_) ?_ ?_ ?_ ?_); rotate_left 3; (focus (with_reducible rfl)); (focus rfl); (focus (intro w' hw'; have hc' := hw'.cell; go_simp; exact rfl)); (try simp only [Act.put]); (try simp only [List.setIfInBounds_toArray]); (try simp only [List.set])) | ((with_reducible refine wpQuiet_run0 (v := ?_) ?_ ?_ ?_); rotate_left 1; (focus (with_reducible rfl)); (focus (intro w' hw'; (try simp only [World.size_alloc] at hw'); go_simp; go_at_call 100; refine (hA _).mono ?_; rintro e w'' ⟨rfl, hb⟩; refine ⟨?_, hw'.call hb⟩; exact rfl)); (try simp only [Act.put]); (try simp only [List.setIfInBounds_toArray]); (try simp only [List.set])) | ((with_reducible refine wpQuiet_rung (v := ?_) (j := ?_) (b := ?_) ?_ ?_ ?_ ?_); rotate_left 3; (focus (with_reducible rfl)); (focus rfl); (focus (intro w' hw'; (try simp only [World.size_alloc] at hw'); go_simp; go_at_call 100; refine (hA _).mono ?_; rintro e w'' ⟨rfl, hb⟩; refine ⟨?_, hw'.call hb⟩; exact rfl)); (try simp only [Act.put]); (try simp only [List.setIfInBounds_toArray]); (try simp only [List.set])) | ((with_reducible refine wpQuiet_run0 (v := ?_) ?_ ?_ ?_); rotate_left 1; (focus (with_reducible rfl)); (focus (intro w' hw'; (try simp only [World.size_alloc] at hw'); go_simp; go_at_call 78; refine (hF _).mono ?_; rintro e w'' ⟨rfl, hb⟩; refine ⟨?_, hw'.call hb⟩; exact rfl)); (try simp only [Act.put]); (try simp only [List.setIfInBounds_toArray]); (try simp only [List.set])) | ((with_reducible refine wpQuiet_rung (v := ?_) (j := ?_) (b := ?_) ?_ ?_ ?_ ?_); rotate_left 3; (focus (with_reducible rfl)); (focus rfl); (focus (intro w' hw'; (try simp only [World.size_alloc] at hw'); go_simp; go_at_call 78; refine (hF _).mono ?_; rintro e w'' ⟨rfl, hb⟩; refine ⟨?_, hw'.call hb⟩; exact rfl)); (try simp only [Act.put]); (try simp only [List.setIfInBounds_toArray]); (try simp only [List.set])))); refine wpQuiet_nil ?_; (try clear hc hf h); intro w' h; (try simp only [World.size_alloc] at h); have hc := h.cell; have hf := h.frozen
  go_wp2_with fail
  exact bodyPost_ret (v := intV (a + b)) (by simp [results, Tryz.results96, go_sem, *]) rfl ⟨rfl, by (refine In.bel ?_; (repeat (first | (refine In.setCell ?_ (by first | omega | (simp; done) | (simp; omega)) _) | (refine In.alloc ?_ _) | (refine In.drew ?_))); (first | exact In.self _ | (refine In.out h ?_ (by first | omega | (simp; done) | (simp; omega)); (repeat (first | (refine In.setCell ?_ (by first | omega | (simp; done) | (simp; omega)) _) | (refine In.alloc ?_ _) | (refine In.drew ?_))); exact In.self _)))⟩
set_option maxRecDepth 100000 in
set_option maxHeartbeats 1000000 in
theorem plus_ge (a b : Int) (ha : Wl a.natAbs) (hb : Wl b.natAbs) (p : Bool) (hp : decide (a < 0) = p) (hq : decide (b < 0) = !p) (h : b.natAbs ≤ a.natAbs) (w : World) :
    Calls Tryz.prog 96 #[intV a, intV b] w fun e w' => e = .returned (intV (a + b)) ∧ Below w.heap.size w w' := by
  have hs := sgn_sub_ge hp hq h
  have hA := sub_ge a.natAbs b.natAbs h ha hb
  have hF := from_any p (a.natAbs - b.natAbs)
  rw [hs] at hF
  rw [intV, intV, hp, hq]
  clear hs hp hq ha hb
  obtain ⟨q, hq⟩ : ∃ q, q = !p := ⟨_, rfl⟩
  have hpq : (p == q) = false := by subst hq; cases p <;> rfl
  rw [← hq]
  clear hq h
  go_enter Tryz.func96, Tryz.ntmps96
  go_wp2_with fail
  (refine (hA _).mono ?_; rintro e w' ⟨rfl, hb⟩; have h := (In.self _).call hb; (try simp only [World.size_alloc] at h); (try simp only [World.size_setCell] at h); clear hb; have hc := h.cell; have hf := h.frozen)
  have hz0 : w.heap.size < w'.heap.size := (by have := h.siz; omega); have hz1 : w.heap.size + 1 < w'.heap.size := (by have := h.siz; omega); have hz2 : w.heap.size + 1 + 1 < w'.heap.size := (by have := h.siz; omega)
  go_wp2_with fail
  (refine (hF _).mono ?_; rintro e w' ⟨rfl, hb⟩; replace h := In.call (by first | exact h | exact h.drew | exact h.alloc _ | exact (h.alloc _).alloc _ | exact ((h.alloc _).alloc _).alloc _) hb; clear hb hc hf; have hc := h.cell; have hf := h.frozen)
  go_wp2_with fail
  exact bodyPost_ret (v := intV (a + b)) (by simp [results, Tryz.results96, go_sem, *]) rfl ⟨rfl, by (refine In.bel ?_; (repeat (first | (refine In.setCell ?_ (by first | omega | (simp; done) | (simp; omega)) _) | (refine In.alloc ?_ _) | (refine In.drew ?_))); (first | exact In.self _ | (refine In.out h ?_ (by first | omega | (simp; done) | (simp; omega)); (repeat (first | (refine In.setCell ?_ (by first | omega | (simp; done) | (simp; omega)) _) | (refine In.alloc ?_ _) | (refine In.drew ?_))); exact In.self _)))⟩
set_option maxRecDepth 100000 in
set_option maxHeartbeats 1000000 in
theorem plus_lt (a b : Int) (ha : Wl a.natAbs) (hb : Wl b.natAbs) (p : Bool) (hp : decide (a < 0) = p) (hq : decide (b < 0) = !p) (h : a.natAbs < b.natAbs) (w : World) :
    Calls Tryz.prog 96 #[intV a, intV b] w fun e w' => e = .returned (intV (a + b)) ∧ Below w.heap.size w w' := by
  have hs := sgn_sub_ge (p := !p) hq (by rw [hp, Bool.not_not]) (Nat.le_of_lt h)
  have hA := sub_lt a.natAbs b.natAbs h ha hb
  have hB := sub_ge b.natAbs a.natAbs (Nat.le_of_lt h) hb ha
  obtain ⟨q, hqq⟩ : ∃ q, q = !p := ⟨_, rfl⟩
  have hpq : (p == q) = false := by subst hqq; cases p <;> rfl
  rw [← hqq] at hs hq
  have hF := from_any q (b.natAbs - a.natAbs)
  rw [hs, Int.add_comm] at hF
  rw [intV, intV, hp, hq]
  clear hs hp hq ha hb hqq h
  go_enter Tryz.func96, Tryz.ntmps96
  go_wp2_with fail
  (refine (hA _).mono ?_; rintro e w' ⟨rfl, hb⟩; have h := (In.self _).call hb; (try simp only [World.size_alloc] at h); (try simp only [World.size_setCell] at h); clear hb; have hc := h.cell; have hf := h.frozen)
  have hz0 : w.heap.size < w'.heap.size := (by have := h.siz; omega); have hz1 : w.heap.size + 1 < w'.heap.size := (by have := h.siz; omega); have hz2 : w.heap.size + 1 + 1 < w'.heap.size := (by have := h.siz; omega)
  go_wp2_with fail
  (refine (hB _).mono ?_; rintro e w' ⟨rfl, hb⟩; replace h := In.call (by first | exact h | exact h.drew | exact h.alloc _ | exact (h.alloc _).alloc _ | exact ((h.alloc _).alloc _).alloc _) hb; clear hb hc hf; have hc := h.cell; have hf := h.frozen)
  clear hz0 hz1 hz2
  have hz0 : w.heap.size < w'.heap.size := (by have := h.siz; omega); have hz1 : w.heap.size + 1 < w'.heap.size := (by have := h.siz; omega); have hz2 : w.heap.size + 1 + 1 < w'.heap.size := (by have := h.siz; omega)
  go_wp2_with fail
  (refine (hF _).mono ?_; rintro e w' ⟨rfl, hb⟩; replace h := In.call (by first | exact h | exact h.drew | exact h.alloc _ | exact (h.alloc _).alloc _ | exact ((h.alloc _).alloc _).alloc _) hb; clear hb hc hf; have hc := h.cell; have hf := h.frozen)
  go_wp2_with fail
  exact bodyPost_ret (v := intV (a + b)) (by simp [results, Tryz.results96, go_sem, *]) rfl ⟨rfl, by (refine In.bel ?_; (repeat (first | (refine In.setCell ?_ (by first | omega | (simp; done) | (simp; omega)) _) | (refine In.alloc ?_ _) | (refine In.drew ?_))); (first | exact In.self _ | (refine In.out h ?_ (by first | omega | (simp; done) | (simp; omega)); (repeat (first | (refine In.setCell ?_ (by first | omega | (simp; done) | (simp; omega)) _) | (refine In.alloc ?_ _) | (refine In.drew ?_))); exact In.self _)))⟩
theorem plus_any (a b : Int) (ha : Wl a.natAbs) (hb : Wl b.natAbs) (w : World) :
    Calls Tryz.prog 96 #[intV a, intV b] w fun e w' => e = .returned (intV (a + b)) ∧ Below w.heap.size w w' := by
  by_cases hs : decide (b < 0) = decide (a < 0)
  · exact plus_same a b ha hb _ rfl hs w
  · have hs' : decide (b < 0) = !decide (a < 0) := by
      cases h1 : decide (b < 0) <;> cases h2 : decide (a < 0) <;> simp [h1, h2] at hs ⊢
    by_cases h : b.natAbs ≤ a.natAbs
    · exact plus_ge a b ha hb _ rfl hs' h w
    · exact plus_lt a b ha hb _ rfl hs' (by omega) w
set_option maxRecDepth 100000 in
set_option maxHeartbeats 1000000 in
theorem times_any (a b : Int) (ha : Wl a.natAbs) (hb : Wl b.natAbs) (w : World) :
    Calls Tryz.prog 101 #[intV a, intV b] w fun e w' => e = .returned (intV (a * b)) ∧ Below w.heap.size w w' := by
  have hs := sgn_mul (a := a) (b := b)
  have hA := mul_any a.natAbs b.natAbs ha hb
  obtain ⟨p, hp⟩ : ∃ p, p = decide (a < 0) := ⟨_, rfl⟩
  obtain ⟨q, hq⟩ : ∃ q, q = decide (b < 0) := ⟨_, rfl⟩
  rw [intV, intV, ← hp, ← hq]
  rw [← hp, ← hq] at hs
  obtain ⟨r, hr⟩ : ∃ r, (p != q) = r := ⟨_, rfl⟩
  rw [hr] at hs
  have hF := from_any r (a.natAbs * b.natAbs)
  rw [hs] at hF
  clear hp hq ha hb hs
  cases p <;> cases q <;> cases r <;> first
    | (exact absurd hr (by decide))
    | (clear hr
       go_enter Tryz.func101, Tryz.ntmps101
       go_wp2_with fail
       refine wp_region_tail (In _ _) 13 (by kernel_rfl) (by kernel_rfl) (In.drew (In.self _)) ?_; simp only [List.take_succ_cons, List.take_zero, List.drop_succ_cons, List.drop_zero]; (repeat (first | ((with_reducible refine wpQuiet_run0 (v := ?_) ?_ ?_ ?_); rotate_left 1; (focus (with_reducible rfl)); (focus (intro w' hw'; have hc' := hw'.cell; go_simp; exact rfl)); (try simp only [Act.put]); (try simp only [List.setIfInBounds_toArray]); (try simp only [List.set])) | ((with_reducible refine wpQuiet_skipg (j := ?_) (b := ?_) ?_ ?_ ?_); rotate_left 2; (focus (with_reducible rfl)); (focus rfl); (try simp only [Act.put]); (try simp only [List.setIfInBounds_toArray]); (try simp only [List.set])) | ((with_reducible refine wpQuiet_rung (v := ?_) (j := ?_) (b := ?_) ?_ ?_ ?_ ?_); rotate_left 3; (focus (with_reducible rfl)); (focus rfl); (focus (intro w' hw'; have hc' := hw'.cell; go_simp; exact rfl)); (try simp only [Act.put]); (try simp only [List.setIfInBounds_toArray]); (try simp only [List.set])) | ((with_reducible refine wpQuiet_run0 (v := ?_) ?_ ?_ ?_); rotate_left 1; (focus (with_reducible rfl)); (focus (intro w' hw'; (try simp only [World.size_alloc] at hw'); go_simp; go_at_call 67; refine (hA _).mono ?_; rintro e w'' ⟨rfl, hb⟩; refine ⟨?_, hw'.call hb⟩; exact rfl)); (try simp only [Act.put]); (try simp only [List.setIfInBounds_toArray]); (try simp only [List.set])) | ((with_reducible refine wpQuiet_rung (v := ?_) (j := ?_) (b := ?_) ?_ ?_ ?_ ?_); rotate_left 3; (focus (with_reducible rfl)); (focus rfl); (focus (intro w' hw'; (try simp only [World.size_alloc] at hw'); go_simp; go_at_call 67; refine (hA _).mono ?_; rintro e w'' ⟨rfl, hb⟩; refine ⟨?_, hw'.call hb⟩; exact rfl)); (try simp only [Act.put]); (try simp only [List.setIfInBounds_toArray]); (try simp only [List.set])) | ((with_reducible refine wpQuiet_run0 (v := ?_) ?_ ?_ ?_); rotate_left 1; (focus (with_reducible rfl)); (focus (intro w' hw'; (try simp only [World.size_alloc] at hw'); go_simp; go_at_call 78; refine (hF _).mono ?_; rintro e w'' ⟨rfl, hb⟩; refine ⟨?_, hw'.call hb⟩; exact rfl)); (try simp only [Act.put]); (try simp only [List.setIfInBounds_toArray]); (try simp only [List.set])) | ((with_reducible refine wpQuiet_rung (v := ?_) (j := ?_) (b := ?_) ?_ ?_ ?_ ?_); rotate_left 3; (focus (with_reducible rfl)); (focus rfl); (focus (intro w' hw'; (try simp only [World.size_alloc] at hw'); go_simp; go_at_call 78; refine (hF _).mono ?_; rintro e w'' ⟨rfl, hb⟩; refine ⟨?_, hw'.call hb⟩; exact rfl)); (try simp only [Act.put]); (try simp only [List.setIfInBounds_toArray]); (try simp only [List.set])))); refine wpQuiet_nil ?_; (try clear hc hf h); intro w' h; (try simp only [World.size_alloc] at h); have hc := h.cell; have hf := h.frozen
       go_wp2_with fail
       exact bodyPost_ret (v := intV (a * b)) (by simp [results, Tryz.results101, go_sem, *]) rfl ⟨rfl, by (refine In.bel ?_; (repeat (first | (refine In.setCell ?_ (by first | omega | (simp; done) | (simp; omega)) _) | (refine In.alloc ?_ _) | (refine In.drew ?_))); (first | exact In.self _ | (refine In.out h ?_ (by first | omega | (simp; done) | (simp; omega)); (repeat (first | (refine In.setCell ?_ (by first | omega | (simp; done) | (simp; omega)) _) | (refine In.alloc ?_ _) | (refine In.drew ?_))); exact In.self _)))⟩)
set_option maxRecDepth 100000 in
theorem told_plus (a b : Int) (ha : Wl a.natAbs) (hb : Wl b.natAbs) (w : World) :
    Calls Tryz.prog 95 #[.func (.func 96) #[] #[], intV a, intV b] w fun e w' => e = .returned (intV (a + b)) ∧ Below w.heap.size w w' := by
  have hA := plus_any a b ha hb
  clear ha hb
  go_enter Tryz.func95, Tryz.ntmps95
  go_wp2_with fail
  (refine (hA _).mono ?_; rintro e w' ⟨rfl, hb⟩; have h := (In.self _).call hb; (try simp only [World.size_alloc] at h); (try simp only [World.size_setCell] at h); clear hb; have hc := h.cell; have hf := h.frozen)
  go_wp2_with fail
  exact bodyPost_ret (v := intV (a + b)) (by simp [results, Tryz.results95, go_sem, *]) rfl ⟨rfl, by (refine In.bel ?_; (repeat (first | (refine In.setCell ?_ (by first | omega | (simp; done) | (simp; omega)) _) | (refine In.alloc ?_ _) | (refine In.drew ?_))); (first | exact In.self _ | (refine In.out h ?_ (by first | omega | (simp; done) | (simp; omega)); (repeat (first | (refine In.setCell ?_ (by first | omega | (simp; done) | (simp; omega)) _) | (refine In.alloc ?_ _) | (refine In.drew ?_))); exact In.self _)))⟩
set_option maxRecDepth 100000 in
theorem told_times (a b : Int) (ha : Wl a.natAbs) (hb : Wl b.natAbs) (w : World) :
    Calls Tryz.prog 95 #[.func (.func 101) #[] #[], intV a, intV b] w fun e w' => e = .returned (intV (a * b)) ∧ Below w.heap.size w w' := by
  have hA := times_any a b ha hb
  clear ha hb
  go_enter Tryz.func95, Tryz.ntmps95
  go_wp2_with fail
  (refine (hA _).mono ?_; rintro e w' ⟨rfl, hb⟩; have h := (In.self _).call hb; (try simp only [World.size_alloc] at h); (try simp only [World.size_setCell] at h); clear hb; have hc := h.cell; have hf := h.frozen)
  go_wp2_with fail
  exact bodyPost_ret (v := intV (a * b)) (by simp [results, Tryz.results95, go_sem, *]) rfl ⟨rfl, by (refine In.bel ?_; (repeat (first | (refine In.setCell ?_ (by first | omega | (simp; done) | (simp; omega)) _) | (refine In.alloc ?_ _) | (refine In.drew ?_))); (first | exact In.self _ | (refine In.out h ?_ (by first | omega | (simp; done) | (simp; omega)); (repeat (first | (refine In.setCell ?_ (by first | omega | (simp; done) | (simp; omega)) _) | (refine In.alloc ?_ _) | (refine In.drew ?_))); exact In.self _)))⟩
set_option maxRecDepth 100000 in
theorem iadd_any (a b : Int) (ha : Wl a.natAbs) (hb : Wl b.natAbs) (w : World) :
    Calls Tryz.prog 62 #[intV a, intV b] w fun e w' => e = .returned (intV (a + b)) ∧ Below w.heap.size w w' := by
  have hA := told_plus a b ha hb
  clear ha hb
  go_enter Tryz.func62, Tryz.ntmps62
  go_wp2_with fail
  (refine (hA _).mono ?_; rintro e w' ⟨rfl, hb⟩; have h := (In.self _).call hb; (try simp only [World.size_alloc] at h); (try simp only [World.size_setCell] at h); clear hb; have hc := h.cell; have hf := h.frozen)
  go_wp2_with fail
  exact bodyPost_ret (v := intV (a + b)) (by simp [results, Tryz.results62, go_sem, *]) rfl ⟨rfl, by (refine In.bel ?_; (repeat (first | (refine In.setCell ?_ (by first | omega | (simp; done) | (simp; omega)) _) | (refine In.alloc ?_ _) | (refine In.drew ?_))); (first | exact In.self _ | (refine In.out h ?_ (by first | omega | (simp; done) | (simp; omega)); (repeat (first | (refine In.setCell ?_ (by first | omega | (simp; done) | (simp; omega)) _) | (refine In.alloc ?_ _) | (refine In.drew ?_))); exact In.self _)))⟩
set_option maxRecDepth 100000 in
theorem imul_any (a b : Int) (ha : Wl a.natAbs) (hb : Wl b.natAbs) (w : World) :
    Calls Tryz.prog 65 #[intV a, intV b] w fun e w' => e = .returned (intV (a * b)) ∧ Below w.heap.size w w' := by
  have hA := told_times a b ha hb
  clear ha hb
  go_enter Tryz.func65, Tryz.ntmps65
  go_wp2_with fail
  (refine (hA _).mono ?_; rintro e w' ⟨rfl, hb⟩; have h := (In.self _).call hb; (try simp only [World.size_alloc] at h); (try simp only [World.size_setCell] at h); clear hb; have hc := h.cell; have hf := h.frozen)
  go_wp2_with fail
  exact bodyPost_ret (v := intV (a * b)) (by simp [results, Tryz.results65, go_sem, *]) rfl ⟨rfl, by (refine In.bel ?_; (repeat (first | (refine In.setCell ?_ (by first | omega | (simp; done) | (simp; omega)) _) | (refine In.alloc ?_ _) | (refine In.drew ?_))); (first | exact In.self _ | (refine In.out h ?_ (by first | omega | (simp; done) | (simp; omega)); (repeat (first | (refine In.setCell ?_ (by first | omega | (simp; done) | (simp; omega)) _) | (refine In.alloc ?_ _) | (refine In.drew ?_))); exact In.self _)))⟩
end Gus
end
section
/- Fractions: the parts; lowest terms. -/
namespace Gus
open Go Go.RowKit Go.Proofs
theorem Wl_of {n i : Nat} (h : n < 2 ^ i) (hi : i < 17592186044416) : Wl n := by
  have h1 : n < 4294967296 ^ (i / 32 + 1) := by
    refine Nat.lt_of_lt_of_le h ?_
    rw [show (4294967296 : Nat) = 2 ^ 32 from rfl, ← Nat.pow_mul]
    exact Nat.pow_le_pow_right (by decide) (by omega)
  have h2 := wd_length h1
  unfold Wl; omega
theorem Wl.mono {m n : Nat} (h : Wl n) (hm : m ≤ n) : Wl m := Nat.le_trans (wd_mono hm) h
theorem SzK.num {i : Nat} {q : Rat} (h : SzK i q) (hi : i < 17592186044416) : Wl q.num.natAbs := Wl_of h.1 hi
theorem SzK.dn {i : Nat} {q : Rat} (h : SzK i q) (hi : i < 17592186044416) : Wl q.den := Wl_of h.2 hi
theorem Wl_one : Wl 1 := Wl_of (i := 1) (by decide) (by decide)
theorem fracV_int (z : Int) : fracV (z : Rat) = .agg #[.int .u64 (lo z.natAbs), .string (bg z.natAbs), .bool (decide (z < 0)), .int .u64 0, .string ⟨#[]⟩] := by
  rw [fracV, Rat.num_intCast, Rat.den_intCast]; rfl
theorem whole_any (z : Int) (w : World) :
    Calls Tryz.prog 46 #[intV z] w fun e w' => e = .returned (fracV (z : Rat)) ∧ Below w.heap.size w w' := by
  rw [fracV_int]
  go_enter Tryz.func46, Tryz.ntmps46
  go_wp2_with fail
  exact bodyPost_ret (v := .agg #[.int .u64 (lo z.natAbs), .string (bg z.natAbs), .bool (decide (z < 0)), .int .u64 0, .string ⟨#[]⟩]) (by simp [results, Tryz.results46, go_sem, *]) rfl ⟨rfl, by (refine In.bel ?_; (repeat (first | (refine In.setCell ?_ (by first | omega | (simp; done) | (simp; omega)) _) | (refine In.alloc ?_ _) | (refine In.drew ?_))); (first | exact In.self _ | (refine In.out h ?_ (by first | omega | (simp; done) | (simp; omega)); (repeat (first | (refine In.setCell ?_ (by first | omega | (simp; done) | (simp; omega)) _) | (refine In.alloc ?_ _) | (refine In.drew ?_))); exact In.self _)))⟩
set_option maxRecDepth 100000 in
theorem fden_any (q : Rat) (hq : Wl q.den) (w : World) :
    Calls Tryz.prog 64 #[fracV q] w fun e w' => e = .returned (natV q.den) ∧ Below w.heap.size w w' := by
  have h0 := natOf_any 1 (by decide) (by decide)
  have h1 := add_any (q.den - 1) 1 (hq.mono (Nat.sub_le _ _)) Wl_one
  rw [show q.den - 1 + 1 = q.den from Nat.sub_add_cancel q.den_pos] at h1
  rw [show (1 : Int).toNat = 1 from rfl] at h0
  clear hq
  go_enter Tryz.func64, Tryz.ntmps64
  go_wp2_with fail
  refine wp_region_tail (In _ _) 4 (by kernel_rfl) (by kernel_rfl) (In.drew (In.self _)) ?_; simp only [List.take_succ_cons, List.take_zero, List.drop_succ_cons, List.drop_zero]; (repeat (first | ((with_reducible refine wpQuiet_run0 (v := ?_) ?_ ?_ ?_); rotate_left 1; (focus (with_reducible rfl)); (focus (intro w' hw'; have hc' := hw'.cell; go_simp; exact rfl)); (try simp only [Act.put]); (try simp only [List.setIfInBounds_toArray]); (try simp only [List.set])) | ((with_reducible refine wpQuiet_skipg (j := ?_) (b := ?_) ?_ ?_ ?_); rotate_left 2; (focus (with_reducible rfl)); (focus rfl); (try simp only [Act.put]); (try simp only [List.setIfInBounds_toArray]); (try simp only [List.set])) | ((with_reducible refine wpQuiet_rung (v := ?_) (j := ?_) (b := ?_) ?_ ?_ ?_ ?_); rotate_left 3; (focus (with_reducible rfl)); (focus rfl); (focus (intro w' hw'; have hc' := hw'.cell; go_simp; exact rfl)); (try simp only [Act.put]); (try simp only [List.setIfInBounds_toArray]); (try simp only [List.set])) | ((with_reducible refine wpQuiet_run0 (v := ?_) ?_ ?_ ?_); rotate_left 1; (focus (with_reducible rfl)); (focus (intro w' hw'; (try simp only [World.size_alloc] at hw'); go_simp; go_at_call 80; refine (h0 _).mono ?_; rintro e w'' ⟨rfl, hb⟩; refine ⟨?_, hw'.call hb⟩; exact rfl)); (try simp only [Act.put]); (try simp only [List.setIfInBounds_toArray]); (try simp only [List.set])) | ((with_reducible refine wpQuiet_rung (v := ?_) (j := ?_) (b := ?_) ?_ ?_ ?_ ?_); rotate_left 3; (focus (with_reducible rfl)); (focus rfl); (focus (intro w' hw'; (try simp only [World.size_alloc] at hw'); go_simp; go_at_call 80; refine (h0 _).mono ?_; rintro e w'' ⟨rfl, hb⟩; refine ⟨?_, hw'.call hb⟩; exact rfl)); (try simp only [Act.put]); (try simp only [List.setIfInBounds_toArray]); (try simp only [List.set])) | ((with_reducible refine wpQuiet_run0 (v := ?_) ?_ ?_ ?_); rotate_left 1; (focus (with_reducible rfl)); (focus (intro w' hw'; (try simp only [World.size_alloc] at hw'); go_simp; go_at_call 100; refine (h1 _).mono ?_; rintro e w'' ⟨rfl, hb⟩; refine ⟨?_, hw'.call hb⟩; exact rfl)); (try simp only [Act.put]); (try simp only [List.setIfInBounds_toArray]); (try simp only [List.set])) | ((with_reducible refine wpQuiet_rung (v := ?_) (j := ?_) (b := ?_) ?_ ?_ ?_ ?_); rotate_left 3; (focus (with_reducible rfl)); (focus rfl); (focus (intro w' hw'; (try simp only [World.size_alloc] at hw'); go_simp; go_at_call 100; refine (h1 _).mono ?_; rintro e w'' ⟨rfl, hb⟩; refine ⟨?_, hw'.call hb⟩; exact rfl)); (try simp only [Act.put]); (try simp only [List.setIfInBounds_toArray]); (try simp only [List.set])))); refine wpQuiet_nil ?_; (try clear hc hf h); intro w' h; (try simp only [World.size_alloc] at h); have hc := h.cell; have hf := h.frozen
  go_wp2_with fail
  exact bodyPost_ret (v := natV q.den) (by simp [results, Tryz.results64, go_sem, *]) rfl ⟨rfl, by (refine In.bel ?_; (repeat (first | (refine In.setCell ?_ (by first | omega | (simp; done) | (simp; omega)) _) | (refine In.alloc ?_ _) | (refine In.drew ?_))); (first | exact In.self _ | (refine In.out h ?_ (by first | omega | (simp; done) | (simp; omega)); (repeat (first | (refine In.setCell ?_ (by first | omega | (simp; done) | (simp; omega)) _) | (refine In.alloc ?_ _) | (refine In.drew ?_))); exact In.self _)))⟩
set_option maxRecDepth 100000 in
theorem signed_any (q : Rat) (hq : Wl q.den) (w : World) :
    Calls Tryz.prog 66 #[fracV q] w fun e w' => e = .returned (intV (q.den : Int)) ∧ Below w.heap.size w w' := by
  have h0 := fden_any q hq
  have h1 := from_any false q.den
  rw [show sgn false q.den = (q.den : Int) by unfold sgn; simp] at h1
  clear hq
  go_enter Tryz.func66, Tryz.ntmps66
  go_wp2_with fail
  (refine (h0 _).mono ?_; rintro e w' ⟨rfl, hb⟩; have h := (In.self _).call hb; (try simp only [World.size_alloc] at h); (try simp only [World.size_setCell] at h); clear hb; have hc := h.cell; have hf := h.frozen)
  go_wp2_with fail
  (refine (h1 _).mono ?_; rintro e w' ⟨rfl, hb⟩; replace h := In.call (by first | exact h | exact h.drew | exact h.alloc _ | exact (h.alloc _).alloc _ | exact ((h.alloc _).alloc _).alloc _) hb; clear hb hc hf; have hc := h.cell; have hf := h.frozen)
  go_wp2_with fail
  exact bodyPost_ret (v := intV (q.den : Int)) (by simp [results, Tryz.results66, go_sem, *]) rfl ⟨rfl, by (refine In.bel ?_; (repeat (first | (refine In.setCell ?_ (by first | omega | (simp; done) | (simp; omega)) _) | (refine In.alloc ?_ _) | (refine In.drew ?_))); (first | exact In.self _ | (refine In.out h ?_ (by first | omega | (simp; done) | (simp; omega)); (repeat (first | (refine In.setCell ?_ (by first | omega | (simp; done) | (simp; omega)) _) | (refine In.alloc ?_ _) | (refine In.drew ?_))); exact In.self _)))⟩
set_option maxRecDepth 100000 in
theorem isWhole_any (q : Rat) (w : World) :
    Calls Tryz.prog 61 #[fracV q] w fun e w' => e = .returned (.bool (decide (q.den = 1))) ∧ Below w.heap.size w w' := by
  have hz := natEq0_run (q.den - 1)
  have hd : decide (q.den - 1 = 0) = decide (q.den = 1) := by
    have := q.den_pos
    rw [decide_eq_decide]; omega
  rw [hd] at hz
  clear hd
  go_enter Tryz.func61, Tryz.ntmps61
  go_wp2_with fail
  go_ret
  exact ⟨rfl, by (refine In.bel ?_; (repeat (first | (refine In.setCell ?_ (by first | omega | (simp; done) | (simp; omega)) _) | (refine In.alloc ?_ _) | (refine In.drew ?_))); (first | exact In.self _ | (refine In.out h ?_ (by first | omega | (simp; done) | (simp; omega)); (repeat (first | (refine In.setCell ?_ (by first | omega | (simp; done) | (simp; omega)) _) | (refine In.alloc ?_ _) | (refine In.drew ?_))); exact In.self _)))⟩
set_option maxRecDepth 100000 in
theorem fsign_any (q : Rat) (w : World) :
    Calls Tryz.prog 30 #[fracV q] w fun e w' => e = .returned (.int .i64 (isign q.num)) ∧ Below w.heap.size w w' := by
  have h0 := isign_any q.num
  go_enter Tryz.func30, Tryz.ntmps30
  go_wp2_with fail
  (refine (h0 _).mono ?_; rintro e w' ⟨rfl, hb⟩; have h := (In.self _).call hb; (try simp only [World.size_alloc] at h); (try simp only [World.size_setCell] at h); clear hb; have hc := h.cell; have hf := h.frozen)
  go_wp2_with fail
  go_ret
  exact ⟨rfl, by (refine In.bel ?_; (repeat (first | (refine In.setCell ?_ (by first | omega | (simp; done) | (simp; omega)) _) | (refine In.alloc ?_ _) | (refine In.drew ?_))); (first | exact In.self _ | (refine In.out h ?_ (by first | omega | (simp; done) | (simp; omega)); (repeat (first | (refine In.setCell ?_ (by first | omega | (simp; done) | (simp; omega)) _) | (refine In.alloc ?_ _) | (refine In.drew ?_))); exact In.self _)))⟩
set_option maxRecDepth 100000 in
theorem fracInt_any (x : Int) (h0 : -9223372036854775808 ≤ x) (h1 : x < 9223372036854775808) (w : World) :
    Calls Tryz.prog 19 #[.int .i64 x] w fun e w' => e = .returned (fracV (x : Rat)) ∧ Below w.heap.size w w' := by
  have ha := intOf_any x h0 h1
  have hb := whole_any x
  clear h0 h1
  go_enter Tryz.func19, Tryz.ntmps19
  go_wp2_with fail
  (refine (ha _).mono ?_; rintro e w' ⟨rfl, hb⟩; have h := (In.self _).call hb; (try simp only [World.size_alloc] at h); (try simp only [World.size_setCell] at h); clear hb; have hc := h.cell; have hf := h.frozen)
  go_wp2_with fail
  (refine (hb _).mono ?_; rintro e w' ⟨rfl, hb⟩; replace h := In.call (by first | exact h | exact h.drew | exact h.alloc _ | exact (h.alloc _).alloc _ | exact ((h.alloc _).alloc _).alloc _) hb; clear hb hc hf; have hc := h.cell; have hf := h.frozen)
  go_wp2_with fail
  exact bodyPost_ret (v := fracV (x : Rat)) (by simp [results, Tryz.results19, go_sem, *]) rfl ⟨rfl, by (refine In.bel ?_; (repeat (first | (refine In.setCell ?_ (by first | omega | (simp; done) | (simp; omega)) _) | (refine In.alloc ?_ _) | (refine In.drew ?_))); (first | exact In.self _ | (refine In.out h ?_ (by first | omega | (simp; done) | (simp; omega)); (repeat (first | (refine In.setCell ?_ (by first | omega | (simp; done) | (simp; omega)) _) | (refine In.alloc ?_ _) | (refine In.drew ?_))); exact In.self _)))⟩
end Gus
end
