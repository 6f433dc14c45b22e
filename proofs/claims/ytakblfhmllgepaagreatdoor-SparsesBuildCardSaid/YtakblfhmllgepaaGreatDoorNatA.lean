import Derived.Test.YtakblfhmllgepaaGreatDoorBlk
namespace Gus
open Go Go.RowKit Go.Proofs

theorem nat_eq_iff' (m n : Nat) : (lo m = lo n ∧ (bg m).toList = (bg n).toList) ↔ m = n := by
  rw [ByteArray.toList_eq, ByteArray.toList_eq]; exact nat_eq_iff m n
theorem nat_zero_iff (n : Nat) : (lo n = 0 ∧ (bg n).toList = []) ↔ n = 0 := by
  have := nat_eq_iff' n 0
  rw [lo_zero, bg_zero, show ByteArray.empty.toList = [] from by rw [ByteArray.toList_eq]; rfl] at this
  exact this
theorem bg_small_iff (n : Nat) : (bg n).toList = [] ↔ n < 18446744073709551616 := by rw [ByteArray.toList_eq]; exact bg_empty_iff n
theorem natEq_run (m n : Nat) (w : World) : (binOp .eql 50 (natV m) (natV n)).run Tryz.prog w = .ok (.bool (decide (m = n))) w := by
  simp [go_sem]
  by_cases h : m = n
  · subst h; simp
  · by_cases h1 : lo m = lo n
    · have h2 : ¬ (bg m).toList = (bg n).toList := fun h2 => h ((nat_eq_iff' m n).1 ⟨h1, h2⟩)
      simp [h1, h2, h]
    · simp [h1, h]
theorem natEq0_run (n : Nat) (w : World) : (binOp .eql 50 (natV n) (.agg #[.int .u64 0, .string ⟨#[]⟩])).run Tryz.prog w = .ok (.bool (decide (n = 0))) w := by
  have := natEq_run n 0 w
  exact this

theorem natOf_any (x : Int) (h0 : 0 ≤ x) (h1 : x < 18446744073709551616) (w : World) :
    Calls Tryz.prog 80 #[.int .u64 x] w fun e w' => e = .returned (natV x.toNat) ∧ Below w.heap.size w w' := by
  have e1 : lo x.toNat = x := by rw [lo_small (by omega)]; omega
  have e2 : bg x.toNat = ⟨#[]⟩ := bg_small (by omega)
  rw [natV, e1, e2]
  clear e1 e2
  go_enter Tryz.func80, Tryz.ntmps80
  go_wp2_with fail
  exact bodyPost_ret (v := .agg #[.int .u64 x, .string ⟨#[]⟩]) (by simp [results, Tryz.results80, go_sem, *]) rfl ⟨rfl, by (refine In.bel ?_; (repeat (first | (refine In.setCell ?_ (by first | omega | (simp; done) | (simp; omega)) _) | (refine In.alloc ?_ _) | (refine In.drew ?_))); (first | exact In.self _ | (refine In.out h ?_ (by first | omega | (simp; done) | (simp; omega)); (repeat (first | (refine In.setCell ?_ (by first | omega | (simp; done) | (simp; omega)) _) | (refine In.alloc ?_ _) | (refine In.drew ?_))); exact In.self _)))⟩
theorem zero_any (n : Nat) (w : World) :
    Calls Tryz.prog 126 #[natV n] w fun e w' => e = .returned (.bool (decide (n = 0))) ∧ Below w.heap.size w w' := by
  have hz := natEq0_run n
  go_enter Tryz.func126, Tryz.ntmps126
  go_wp2_with fail
  go_ret
  exact ⟨rfl, by (refine In.bel ?_; (repeat (first | (refine In.setCell ?_ (by first | omega | (simp; done) | (simp; omega)) _) | (refine In.alloc ?_ _) | (refine In.drew ?_))); (first | exact In.self _ | (refine In.out h ?_ (by first | omega | (simp; done) | (simp; omega)); (repeat (first | (refine In.setCell ?_ (by first | omega | (simp; done) | (simp; omega)) _) | (refine In.alloc ?_ _) | (refine In.drew ?_))); exact In.self _)))⟩
theorem sign_any (n : Int) (w : World) :
    Calls Tryz.prog 160 #[.int .i64 n] w fun e w' => e = .returned (.int .i64 (if n < 0 then -1 else if n = 0 then 0 else 1)) ∧ w = w' := by
  by_cases h1 : n < 0
  · rw [if_pos h1]
    go_enter Tryz.func160, Tryz.ntmps160
    go_wp2_with fail
    all_goals (go_ret; first | exact ⟨rfl, rfl⟩ | (exfalso; omega))
  · rw [if_neg h1]
    by_cases h2 : n = 0
    · rw [if_pos h2]; subst h2
      go_enter Tryz.func160, Tryz.ntmps160
      go_wp2_with fail
      go_ret
      exact ⟨rfl, rfl⟩
    · rw [if_neg h2]
      have h3 : 0 < n := by omega
      go_enter Tryz.func160, Tryz.ntmps160
      go_wp2_with fail
      go_ret
      exact ⟨rfl, rfl⟩
end Gus
