import Derived.Test.YtjiobckoldnonaaGreatDoorBldB
import Derived.IntWalk
/- Matrices: sizes. -/
namespace Gus
open Go Go.RowKit Go.Proofs
set_option maxRecDepth 100000 in
set_option maxHeartbeats 1000000 in
theorem msides_any (n m : Int) (w : World) :
    Calls Tryz.prog 85 #[.int .i64 n, .int .i64 m] w fun e w' => e = .returned (.int .i64 (sidesE n m)) ∧ Below w.heap.size w w' := by
  unfold sidesE
  by_cases h1 : n < 0 <;> by_cases h2 : m < 0 <;> by_cases h3 : 2048 < n <;> by_cases h4 : 2048 < m <;> simp only [h1, h2, h3, h4, or_true, or_false, if_true, if_false, or_self]
  all_goals
    go_enter Tryz.func85, Tryz.ntmps85
    go_wp2_with fail
    go_ret
    exact ⟨rfl, by (refine In.bel ?_; (repeat (first | (refine In.setCell ?_ (by first | omega | (simp; done) | (simp; omega)) _) | (refine In.alloc ?_ _) | (refine In.drew ?_))); (first | exact In.self _ | (refine In.out h ?_ (by first | omega | (simp; done) | (simp; omega)); (repeat (first | (refine In.setCell ?_ (by first | omega | (simp; done) | (simp; omega)) _) | (refine In.alloc ?_ _) | (refine In.drew ?_))); exact In.self _)))⟩
theorem sidesE_zero {n m : Int} (h : sidesE n m = 0) : 0 ≤ n ∧ n ≤ 2048 ∧ 0 ≤ m ∧ m ≤ 2048 := by
  unfold sidesE at h
  split at h
  · omega
  · split at h <;> omega
def checkM (n m : Int) (len : Nat) : Int := if sidesE n m = 0 then (if (len : Int) = n * m then 0 else 1) else sidesE n m
set_option maxRecDepth 100000 in
set_option maxHeartbeats 1000000 in
theorem mcheck_any (n m : Int) (a : Option Addr) (len cap : Nat) (w : World) :
    Calls Tryz.prog 30 #[.agg #[.int .i64 n, .int .i64 m, .slice a len cap]] w fun e w' => e = .returned (.int .i64 (checkM n m len)) ∧ Below w.heap.size w w' := by
  have h1 := msides_any n m
  unfold checkM
  by_cases hs : sidesE n m = 0
  · rw [if_pos hs]
    obtain ⟨a1, a2, a3, a4⟩ := sidesE_zero hs
    rw [hs] at h1
    obtain ⟨x, hx⟩ : ∃ x, x = n * m := ⟨_, rfl⟩
    have hx0 : 0 ≤ x := by rw [hx]; exact Int.mul_nonneg a1 a3
    have hx1 : x ≤ 4194304 := by rw [hx]; exact Int.mul_le_mul a2 a4 a3 (by decide)
    have hw : IntKind.i64.wrap (n * m) = x := by rw [← hx]; exact IntWalk.i64_in _ (by omega)
    rw [← hx]
    by_cases hl : (len : Int) = x
    · rw [if_pos hl]
      have hb : ((len : Int) != x) = false := by simp [hl]
      clear hl hx hx0 hx1 a1 a2 a3 a4 hs
      go_enter Tryz.func30, Tryz.ntmps30
      go_wp2_with fail
      (((with_reducible refine (h1 _).mono ?_)); rintro e w' ⟨rfl, hb⟩; have h := (In.self _).call hb; (try simp only [World.size_alloc] at h); (try simp only [World.size_setCell] at h); clear hb; have hc := h.cell; have hf := h.frozen)
      go_wp2_with fail
      go_ret
      exact ⟨rfl, by (refine In.bel ?_; (repeat (first | (refine In.setCell ?_ (by first | omega | (simp; done) | (simp; omega)) _) | (refine In.alloc ?_ _) | (refine In.drew ?_))); (first | exact In.self _ | (refine In.out h ?_ (by first | omega | (simp; done) | (simp; omega)); (repeat (first | (refine In.setCell ?_ (by first | omega | (simp; done) | (simp; omega)) _) | (refine In.alloc ?_ _) | (refine In.drew ?_))); exact In.self _)))⟩
    · rw [if_neg hl]
      have hb : ((len : Int) != x) = true := by simp [hl]
      clear hl hx hx0 hx1 a1 a2 a3 a4 hs
      go_enter Tryz.func30, Tryz.ntmps30
      go_wp2_with fail
      (((with_reducible refine (h1 _).mono ?_)); rintro e w' ⟨rfl, hb⟩; have h := (In.self _).call hb; (try simp only [World.size_alloc] at h); (try simp only [World.size_setCell] at h); clear hb; have hc := h.cell; have hf := h.frozen)
      go_wp2_with fail
      go_ret
      exact ⟨rfl, by (refine In.bel ?_; (repeat (first | (refine In.setCell ?_ (by first | omega | (simp; done) | (simp; omega)) _) | (refine In.alloc ?_ _) | (refine In.drew ?_))); (first | exact In.self _ | (refine In.out h ?_ (by first | omega | (simp; done) | (simp; omega)); (repeat (first | (refine In.setCell ?_ (by first | omega | (simp; done) | (simp; omega)) _) | (refine In.alloc ?_ _) | (refine In.drew ?_))); exact In.self _)))⟩
  · rw [if_neg hs]
    obtain ⟨s, hs1⟩ : ∃ s, s = sidesE n m := ⟨_, rfl⟩
    rw [← hs1] at h1 hs ⊢
    have hb : (s != 0) = true := by simpa using hs
    clear hs hs1
    go_enter Tryz.func30, Tryz.ntmps30
    go_wp2_with fail
    (((with_reducible refine (h1 _).mono ?_)); rintro e w' ⟨rfl, hb⟩; have h := (In.self _).call hb; (try simp only [World.size_alloc] at h); (try simp only [World.size_setCell] at h); clear hb; have hc := h.cell; have hf := h.frozen)
    go_wp2_with fail
    go_ret
    exact ⟨rfl, by (refine In.bel ?_; (repeat (first | (refine In.setCell ?_ (by first | omega | (simp; done) | (simp; omega)) _) | (refine In.alloc ?_ _) | (refine In.drew ?_))); (first | exact In.self _ | (refine In.out h ?_ (by first | omega | (simp; done) | (simp; omega)); (repeat (first | (refine In.setCell ?_ (by first | omega | (simp; done) | (simp; omega)) _) | (refine In.alloc ?_ _) | (refine In.drew ?_))); exact In.self _)))⟩
end Gus
