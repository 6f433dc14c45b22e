import Derived.Test.YtjbclomfocnplaaGreatDoorFracD
/- Fractions of a statement's input; sizes; positions. -/
namespace Gus
open Go Go.RowKit Go.Proofs
/-- the fraction of a statement's input -/
def qOf (n d : Int) : Rat := (n : Rat) / ((max d 1 : Int) : Rat)
set_option maxRecDepth 100000 in
set_option maxHeartbeats 1000000 in
theorem qOf_any (n d : Int) (hn0 : -9223372036854775808 ≤ n) (hn1 : n < 9223372036854775808) (hd0 : 0 ≤ d) (hd1 : d < 4294967296) (w : World) :
    Calls Tryz.prog 36 #[.agg #[.int .i64 n, .int .u32 d]] w fun e w' => e = .returned (fracV (qOf n d)) ∧ Below w.heap.size w w' := by
  have h1 := fracOf_any n (max d 1) hn0 hn1 (by omega) (by omega) (by omega)
  unfold qOf
  obtain ⟨q, hq⟩ : ∃ q, q = (n : Rat) / ((max d 1 : Int) : Rat) := ⟨_, rfl⟩
  rw [← hq] at h1 ⊢
  have hw1 : IntKind.i64.wrap (max d 1) = max d 1 := IntWalk.i64_in _ (by omega)
  clear hq
  go_enter Tryz.func36, Tryz.ntmps36
  go_wp2_with fail
  (((with_reducible refine (h1 _).mono ?_)); rintro e w' ⟨rfl, hb⟩; have h := (In.self _).call hb; (try simp only [World.size_alloc] at h); (try simp only [World.size_setCell] at h); clear hb; have hc := h.cell; have hf := h.frozen)
  have hz0 : w.heap.size < w'.heap.size := (by have := h.siz; omega); have hz1 : w.heap.size + 1 < w'.heap.size := (by have := h.siz; omega)
  go_wp2_with fail
  exact bodyPost_ret (v := fracV q) (by simp [results, Tryz.results36, go_sem, *]) rfl ⟨rfl, by (refine In.bel ?_; (repeat (first | (refine In.setCell ?_ (by first | omega | (simp; done) | (simp; omega)) _) | (refine In.alloc ?_ _) | (refine In.drew ?_))); (first | exact In.self _ | (refine In.out h ?_ (by first | omega | (simp; done) | (simp; omega)); (repeat (first | (refine In.setCell ?_ (by first | omega | (simp; done) | (simp; omega)) _) | (refine In.alloc ?_ _) | (refine In.drew ?_))); exact In.self _)))⟩
theorem has_any (i n : Int) (w : World) :
    Calls Tryz.prog 95 #[.int .i64 i, .int .i64 n] w fun e w' => e = .returned (.bool (decide (0 ≤ i) && decide (i < n))) ∧ Below w.heap.size w w' := by
  by_cases h0 : 0 ≤ i
  · have e : (decide (0 ≤ i) && decide (i < n)) = decide (i < n) := by rw [decide_eq_true h0, Bool.true_and]
    rw [e]
    clear e
    go_enter Tryz.func95, Tryz.ntmps95
    go_wp2_with fail
    go_ret
    exact ⟨rfl, by (refine In.bel ?_; (repeat (first | (refine In.setCell ?_ (by first | omega | (simp; done) | (simp; omega)) _) | (refine In.alloc ?_ _) | (refine In.drew ?_))); (first | exact In.self _ | (refine In.out h ?_ (by first | omega | (simp; done) | (simp; omega)); (repeat (first | (refine In.setCell ?_ (by first | omega | (simp; done) | (simp; omega)) _) | (refine In.alloc ?_ _) | (refine In.drew ?_))); exact In.self _)))⟩
  · have e : (decide (0 ≤ i) && decide (i < n)) = false := by rw [decide_eq_false h0, Bool.false_and]
    rw [e]
    clear e
    go_enter Tryz.func95, Tryz.ntmps95
    go_wp2_with fail
    go_ret
    exact ⟨rfl, by (refine In.bel ?_; (repeat (first | (refine In.setCell ?_ (by first | omega | (simp; done) | (simp; omega)) _) | (refine In.alloc ?_ _) | (refine In.drew ?_))); (first | exact In.self _ | (refine In.out h ?_ (by first | omega | (simp; done) | (simp; omega)); (repeat (first | (refine In.setCell ?_ (by first | omega | (simp; done) | (simp; omega)) _) | (refine In.alloc ?_ _) | (refine In.drew ?_))); exact In.self _)))⟩
def sidesE (n m : Int) : Int := if n < 0 ∨ m < 0 then 1 else if 2048 < n ∨ 2048 < m then 3 else 0
set_option maxRecDepth 100000 in
set_option maxHeartbeats 1000000 in
theorem sides_any (n m : Int) (w : World) :
    Calls Tryz.prog 93 #[.int .i64 n, .int .i64 m] w fun e w' => e = .returned (.int .i64 (sidesE n m)) ∧ Below w.heap.size w w' := by
  unfold sidesE
  by_cases h1 : n < 0 <;> by_cases h2 : m < 0 <;> by_cases h3 : 2048 < n <;> by_cases h4 : 2048 < m <;> simp only [h1, h2, h3, h4, or_true, or_false, if_true, if_false, or_self]
  all_goals
    go_enter Tryz.func93, Tryz.ntmps93
    go_wp2_with fail
    go_ret
    exact ⟨rfl, by (refine In.bel ?_; (repeat (first | (refine In.setCell ?_ (by first | omega | (simp; done) | (simp; omega)) _) | (refine In.alloc ?_ _) | (refine In.drew ?_))); (first | exact In.self _ | (refine In.out h ?_ (by first | omega | (simp; done) | (simp; omega)); (repeat (first | (refine In.setCell ?_ (by first | omega | (simp; done) | (simp; omega)) _) | (refine In.alloc ?_ _) | (refine In.drew ?_))); exact In.self _)))⟩
end Gus
