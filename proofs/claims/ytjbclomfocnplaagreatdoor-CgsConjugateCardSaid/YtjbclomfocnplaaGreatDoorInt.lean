import Derived.Test.YtjbclomfocnplaaGreatDoorNatN
import Derived.Test.YtjbclomfocnplaaGreatDoorEnc
/- Integers. -/
namespace Gus
open Go Go.RowKit Go.Proofs
def sgn (b : Bool) (n : Nat) : Int := if b then -(n : Int) else n
theorem sgn_abs (b : Bool) (n : Nat) : (sgn b n).natAbs = n := by unfold sgn; split <;> simp
theorem sgn_neg (b : Bool) (n : Nat) : decide (sgn b n < 0) = (b && !decide (n = 0)) := by
  unfold sgn
  cases b
  · simp
  · by_cases h : n = 0
    · simp [h]
    · simp [h]; omega
theorem intV_sgn (b : Bool) (n : Nat) : intV (sgn b n) = .agg #[.int .u64 (lo n), .string (bg n), .bool (b && !decide (n = 0))] := by
  rw [intV, sgn_abs, sgn_neg]
theorem sizeEq0_run (n : Nat) (w : World) : (binOp .eql 48 (natV n) (.agg #[.int .u64 0, .string ⟨#[]⟩])).run Tryz.prog w = .ok (.bool (decide (n = 0))) w := by
  have h0 := nat_zero_iff n
  simp [go_sem]
  by_cases h1 : lo n = 0
  · by_cases h2 : (bg n).toList = []
    · have := h0.1 ⟨h1, h2⟩
      subst this
      simp [h1, h2]
    · have : ¬ n = 0 := fun h => h2 (h0.2 h).2
      simp [h1, h2, this]
  · have : ¬ n = 0 := fun h => h1 (h0.2 h).1
    simp [h1, this]
theorem szero_any (n : Nat) (w : World) :
    Calls Tryz.prog 174 #[natV n] w fun e w' => e = .returned (.bool (decide (n = 0))) ∧ Below w.heap.size w w' := by
  have hz := sizeEq0_run n
  go_enter Tryz.func174, Tryz.ntmps174
  go_wp2_with fail
  go_ret
  exact ⟨rfl, by (refine In.bel ?_; (repeat (first | (refine In.setCell ?_ (by first | omega | (simp; done) | (simp; omega)) _) | (refine In.alloc ?_ _) | (refine In.drew ?_))); (first | exact In.self _ | (refine In.out h ?_ (by first | omega | (simp; done) | (simp; omega)); (repeat (first | (refine In.setCell ?_ (by first | omega | (simp; done) | (simp; omega)) _) | (refine In.alloc ?_ _) | (refine In.drew ?_))); exact In.self _)))⟩
set_option maxRecDepth 100000 in
set_option maxHeartbeats 400000 in
theorem from_any (b : Bool) (n : Nat) (w : World) :
    Calls Tryz.prog 89 #[.bool b, natV n] w fun e w' => e = .returned (intV (sgn b n)) ∧ Below w.heap.size w w' := by
  rw [intV_sgn]
  cases b
  · go_enter Tryz.func89, Tryz.ntmps89
    go_wp2_with fail
    refine wp_region_tail (In _ _) 8 (by kernel_rfl) (by kernel_rfl) (In.drew (In.self _)) ?_; simp only [List.take_succ_cons, List.take_zero, List.drop_succ_cons, List.drop_zero]; (repeat (first | ((with_reducible refine wpQuiet_run0 (v := ?_) ?_ ?_ ?_); rotate_left 1; (focus (with_reducible rfl)); (focus (intro w' hw'; have hc' := hw'.cell; go_simp; exact rfl)); (try simp only [Act.put]); (try simp only [List.setIfInBounds_toArray]); (try simp only [List.set])) | ((with_reducible refine wpQuiet_skipg (j := ?_) (b := ?_) ?_ ?_ ?_); rotate_left 2; (focus (with_reducible rfl)); (focus rfl); (try simp only [Act.put]); (try simp only [List.setIfInBounds_toArray]); (try simp only [List.set])) | ((with_reducible refine wpQuiet_rung (v := ?_) (j := ?_) (b := ?_) ?_ ?_ ?_ ?_); rotate_left 3; (focus (with_reducible rfl)); (focus rfl); (focus (intro w' hw'; have hc' := hw'.cell; go_simp; exact rfl)); (try simp only [Act.put]); (try simp only [List.setIfInBounds_toArray]); (try simp only [List.set])) | ((with_reducible refine wpQuiet_run0 (v := ?_) ?_ ?_ ?_); rotate_left 1; (focus (with_reducible rfl)); (focus (intro w' hw'; (try simp only [World.size_alloc] at hw'); go_simp; go_at_call 174; refine (szero_any n _).mono ?_; rintro e w'' ⟨rfl, hb⟩; refine ⟨?_, hw'.call hb⟩; exact rfl)); (try simp only [Act.put]); (try simp only [List.setIfInBounds_toArray]); (try simp only [List.set])) | ((with_reducible refine wpQuiet_rung (v := ?_) (j := ?_) (b := ?_) ?_ ?_ ?_ ?_); rotate_left 3; (focus (with_reducible rfl)); (focus rfl); (focus (intro w' hw'; (try simp only [World.size_alloc] at hw'); go_simp; go_at_call 174; refine (szero_any n _).mono ?_; rintro e w'' ⟨rfl, hb⟩; refine ⟨?_, hw'.call hb⟩; exact rfl)); (try simp only [Act.put]); (try simp only [List.setIfInBounds_toArray]); (try simp only [List.set])))); refine wpQuiet_nil ?_; (try clear hc hf h); intro w' h; (try simp only [World.size_alloc] at h); have hc := h.cell; have hf := h.frozen
    go_wp2_with fail
    exact bodyPost_ret (v := .agg #[.int .u64 (lo n), .string (bg n), .bool false]) (by simp [results, Tryz.results89, go_sem, *]) rfl ⟨rfl, by (refine In.bel ?_; (repeat (first | (refine In.setCell ?_ (by first | omega | (simp; done) | (simp; omega)) _) | (refine In.alloc ?_ _) | (refine In.drew ?_))); (first | exact In.self _ | (refine In.out h ?_ (by first | omega | (simp; done) | (simp; omega)); (repeat (first | (refine In.setCell ?_ (by first | omega | (simp; done) | (simp; omega)) _) | (refine In.alloc ?_ _) | (refine In.drew ?_))); exact In.self _)))⟩
  · go_enter Tryz.func89, Tryz.ntmps89
    go_wp2_with fail
    refine wp_region_tail (In _ _) 8 (by kernel_rfl) (by kernel_rfl) (In.drew (In.self _)) ?_; simp only [List.take_succ_cons, List.take_zero, List.drop_succ_cons, List.drop_zero]; (repeat (first | ((with_reducible refine wpQuiet_run0 (v := ?_) ?_ ?_ ?_); rotate_left 1; (focus (with_reducible rfl)); (focus (intro w' hw'; have hc' := hw'.cell; go_simp; exact rfl)); (try simp only [Act.put]); (try simp only [List.setIfInBounds_toArray]); (try simp only [List.set])) | ((with_reducible refine wpQuiet_skipg (j := ?_) (b := ?_) ?_ ?_ ?_); rotate_left 2; (focus (with_reducible rfl)); (focus rfl); (try simp only [Act.put]); (try simp only [List.setIfInBounds_toArray]); (try simp only [List.set])) | ((with_reducible refine wpQuiet_rung (v := ?_) (j := ?_) (b := ?_) ?_ ?_ ?_ ?_); rotate_left 3; (focus (with_reducible rfl)); (focus rfl); (focus (intro w' hw'; have hc' := hw'.cell; go_simp; exact rfl)); (try simp only [Act.put]); (try simp only [List.setIfInBounds_toArray]); (try simp only [List.set])) | ((with_reducible refine wpQuiet_run0 (v := ?_) ?_ ?_ ?_); rotate_left 1; (focus (with_reducible rfl)); (focus (intro w' hw'; (try simp only [World.size_alloc] at hw'); go_simp; go_at_call 174; refine (szero_any n _).mono ?_; rintro e w'' ⟨rfl, hb⟩; refine ⟨?_, hw'.call hb⟩; exact rfl)); (try simp only [Act.put]); (try simp only [List.setIfInBounds_toArray]); (try simp only [List.set])) | ((with_reducible refine wpQuiet_rung (v := ?_) (j := ?_) (b := ?_) ?_ ?_ ?_ ?_); rotate_left 3; (focus (with_reducible rfl)); (focus rfl); (focus (intro w' hw'; (try simp only [World.size_alloc] at hw'); go_simp; go_at_call 174; refine (szero_any n _).mono ?_; rintro e w'' ⟨rfl, hb⟩; refine ⟨?_, hw'.call hb⟩; exact rfl)); (try simp only [Act.put]); (try simp only [List.setIfInBounds_toArray]); (try simp only [List.set])))); refine wpQuiet_nil ?_; (try clear hc hf h); intro w' h; (try simp only [World.size_alloc] at h); have hc := h.cell; have hf := h.frozen
    go_wp2_with fail
    exact bodyPost_ret (v := .agg #[.int .u64 (lo n), .string (bg n), .bool (!decide (n = 0))]) (by simp [results, Tryz.results89, go_sem, *]) rfl ⟨rfl, by (refine In.bel ?_; (repeat (first | (refine In.setCell ?_ (by first | omega | (simp; done) | (simp; omega)) _) | (refine In.alloc ?_ _) | (refine In.drew ?_))); (first | exact In.self _ | (refine In.out h ?_ (by first | omega | (simp; done) | (simp; omega)); (repeat (first | (refine In.setCell ?_ (by first | omega | (simp; done) | (simp; omega)) _) | (refine In.alloc ?_ _) | (refine In.drew ?_))); exact In.self _)))⟩
set_option maxRecDepth 100000 in
set_option maxHeartbeats 400000 in
theorem intOf_any (x : Int) (h0 : -9223372036854775808 ≤ x) (h1 : x < 9223372036854775808) (w : World) :
    Calls Tryz.prog 96 #[.int .i64 x] w fun e w' => e = .returned (intV x) ∧ Below w.heap.size w w' := by
  by_cases hx : x < 0
  · have hs : sgn true x.natAbs = x := by unfold sgn; rw [if_pos rfl]; omega
    have hw1 : IntKind.u64.wrap (-(IntKind.u64.wrap x)) = -x := by simp [IntKind.wrap, IntKind.bits, IntKind.signed]; omega
    have hN := natOf_any (-x) (by omega) (by omega)
    rw [show (-x).toNat = x.natAbs by omega] at hN
    have hF := from_any true x.natAbs
    rw [hs] at hF
    have HS := Lib.hid hs
    clear hs
    go_enter Tryz.func96, Tryz.ntmps96
    go_wp2_with fail
    (refine (hN _).mono ?_; rintro e w' ⟨rfl, hb⟩; have h := (In.self _).call hb; (try simp only [World.size_alloc] at h); (try simp only [World.size_setCell] at h); clear hb; have hc := h.cell; have hf := h.frozen)
    go_wp2_with fail
    (refine (hF _).mono ?_; rintro e w' ⟨rfl, hb⟩; replace h := In.call (by first | exact h | exact h.drew | exact h.alloc _ | exact (h.alloc _).alloc _ | exact ((h.alloc _).alloc _).alloc _) hb; clear hb hc hf; have hc := h.cell; have hf := h.frozen)
    go_wp2_with fail
    exact bodyPost_ret (v := intV x) (by simp [results, Tryz.results96, go_sem, *]) rfl ⟨rfl, by (refine In.bel ?_; (repeat (first | (refine In.setCell ?_ (by first | omega | (simp; done) | (simp; omega)) _) | (refine In.alloc ?_ _) | (refine In.drew ?_))); (first | exact In.self _ | (refine In.out h ?_ (by first | omega | (simp; done) | (simp; omega)); (repeat (first | (refine In.setCell ?_ (by first | omega | (simp; done) | (simp; omega)) _) | (refine In.alloc ?_ _) | (refine In.drew ?_))); exact In.self _)))⟩
  · have hs : sgn false x.natAbs = x := by unfold sgn; rw [if_neg (by simp)]; omega
    have hw1 : IntKind.u64.wrap x = x := by simp [IntKind.wrap, IntKind.bits, IntKind.signed]; omega
    have hN := natOf_any x (by omega) (by omega)
    rw [show x.toNat = x.natAbs by omega] at hN
    have hF := from_any false x.natAbs
    rw [hs] at hF
    have HS := Lib.hid hs
    clear hs
    go_enter Tryz.func96, Tryz.ntmps96
    go_wp2_with fail
    (refine (hN _).mono ?_; rintro e w' ⟨rfl, hb⟩; have h := (In.self _).call hb; (try simp only [World.size_alloc] at h); (try simp only [World.size_setCell] at h); clear hb; have hc := h.cell; have hf := h.frozen)
    go_wp2_with fail
    (refine (hF _).mono ?_; rintro e w' ⟨rfl, hb⟩; replace h := In.call (by first | exact h | exact h.drew | exact h.alloc _ | exact (h.alloc _).alloc _ | exact ((h.alloc _).alloc _).alloc _) hb; clear hb hc hf; have hc := h.cell; have hf := h.frozen)
    go_wp2_with fail
    exact bodyPost_ret (v := intV x) (by simp [results, Tryz.results96, go_sem, *]) rfl ⟨rfl, by (refine In.bel ?_; (repeat (first | (refine In.setCell ?_ (by first | omega | (simp; done) | (simp; omega)) _) | (refine In.alloc ?_ _) | (refine In.drew ?_))); (first | exact In.self _ | (refine In.out h ?_ (by first | omega | (simp; done) | (simp; omega)); (repeat (first | (refine In.setCell ?_ (by first | omega | (simp; done) | (simp; omega)) _) | (refine In.alloc ?_ _) | (refine In.drew ?_))); exact In.self _)))⟩
theorem abs_any (z : Int) (w : World) :
    Calls Tryz.prog 90 #[intV z] w fun e w' => e = .returned (natV z.natAbs) ∧ Below w.heap.size w w' := by
  go_enter Tryz.func90, Tryz.ntmps90
  go_wp2_with fail
  exact bodyPost_ret (v := natV z.natAbs) (by simp [results, Tryz.results90, go_sem, *]) rfl ⟨rfl, by (refine In.bel ?_; (repeat (first | (refine In.setCell ?_ (by first | omega | (simp; done) | (simp; omega)) _) | (refine In.alloc ?_ _) | (refine In.drew ?_))); (first | exact In.self _ | (refine In.out h ?_ (by first | omega | (simp; done) | (simp; omega)); (repeat (first | (refine In.setCell ?_ (by first | omega | (simp; done) | (simp; omega)) _) | (refine In.alloc ?_ _) | (refine In.drew ?_))); exact In.self _)))⟩
def isign (z : Int) : Int := if z < 0 then -1 else if z = 0 then 0 else 1
set_option maxRecDepth 100000 in
theorem isign_any (z : Int) (w : World) :
    Calls Tryz.prog 168 #[intV z] w fun e w' => e = .returned (.int .i64 (isign z)) ∧ Below w.heap.size w w' := by
  have hZ := szero_any z.natAbs
  rw [intV]
  rcases Int.lt_trichotomy z 0 with h | h | h
  · have e : isign z = -1 := by unfold isign; rw [if_pos h]
    have h1 : decide (z < 0) = true := by simp [h]
    have h2 : decide (z.natAbs = 0) = false := by simp; omega
    rw [e, h1]
    rw [h2] at hZ
    clear h1 h2 e
    go_enter Tryz.func168, Tryz.ntmps168
    go_wp2_with fail
    (refine (hZ _).mono ?_; rintro e w' ⟨rfl, hb⟩; have h := (In.self _).call hb; (try simp only [World.size_alloc] at h); (try simp only [World.size_setCell] at h); clear hb; have hc := h.cell; have hf := h.frozen)
    go_wp2_with fail
    go_ret
    exact ⟨rfl, by (refine In.bel ?_; (repeat (first | (refine In.setCell ?_ (by first | omega | (simp; done) | (simp; omega)) _) | (refine In.alloc ?_ _) | (refine In.drew ?_))); (first | exact In.self _ | (refine In.out h ?_ (by first | omega | (simp; done) | (simp; omega)); (repeat (first | (refine In.setCell ?_ (by first | omega | (simp; done) | (simp; omega)) _) | (refine In.alloc ?_ _) | (refine In.drew ?_))); exact In.self _)))⟩
  · have e : isign z = 0 := by subst h; rfl
    have h1 : decide (z < 0) = false := by simp; omega
    have h2 : decide (z.natAbs = 0) = true := by simp; omega
    rw [e, h1]
    rw [h2] at hZ
    clear h1 h2 e h
    go_enter Tryz.func168, Tryz.ntmps168
    go_wp2_with fail
    (refine (hZ _).mono ?_; rintro e w' ⟨rfl, hb⟩; have h := (In.self _).call hb; (try simp only [World.size_alloc] at h); (try simp only [World.size_setCell] at h); clear hb; have hc := h.cell; have hf := h.frozen)
    go_wp2_with fail
    go_ret
    exact ⟨rfl, by (refine In.bel ?_; (repeat (first | (refine In.setCell ?_ (by first | omega | (simp; done) | (simp; omega)) _) | (refine In.alloc ?_ _) | (refine In.drew ?_))); (first | exact In.self _ | (refine In.out h ?_ (by first | omega | (simp; done) | (simp; omega)); (repeat (first | (refine In.setCell ?_ (by first | omega | (simp; done) | (simp; omega)) _) | (refine In.alloc ?_ _) | (refine In.drew ?_))); exact In.self _)))⟩
  · have e : isign z = 1 := by unfold isign; rw [if_neg (by omega), if_neg (by omega)]
    have h1 : decide (z < 0) = false := by simp; omega
    have h2 : decide (z.natAbs = 0) = false := by simp; omega
    rw [e, h1]
    rw [h2] at hZ
    clear h1 h2 e
    go_enter Tryz.func168, Tryz.ntmps168
    go_wp2_with fail
    (refine (hZ _).mono ?_; rintro e w' ⟨rfl, hb⟩; have h := (In.self _).call hb; (try simp only [World.size_alloc] at h); (try simp only [World.size_setCell] at h); clear hb; have hc := h.cell; have hf := h.frozen)
    go_wp2_with fail
    go_ret
    exact ⟨rfl, by (refine In.bel ?_; (repeat (first | (refine In.setCell ?_ (by first | omega | (simp; done) | (simp; omega)) _) | (refine In.alloc ?_ _) | (refine In.drew ?_))); (first | exact In.self _ | (refine In.out h ?_ (by first | omega | (simp; done) | (simp; omega)); (repeat (first | (refine In.setCell ?_ (by first | omega | (simp; done) | (simp; omega)) _) | (refine In.alloc ?_ _) | (refine In.drew ?_))); exact In.self _)))⟩
/-- a number of a size that the contracts take -/
def Wl (n : Nat) : Prop := (wd n).length ≤ 549755813888
theorem sgn_of (z : Int) : sgn (decide (z < 0)) z.natAbs = z := by
  unfold sgn
  by_cases h : z < 0
  · simp [h]; omega
  · simp [h]; omega
theorem sgn_add_same {p : Bool} {a b : Int} (ha : decide (a < 0) = p) (hb : decide (b < 0) = p) : sgn p (a.natAbs + b.natAbs) = a + b := by
  subst ha
  have h : (a < 0 ↔ b < 0) := by
    by_cases h1 : a < 0 <;> by_cases h2 : b < 0 <;> simp [h1, h2] at hb <;> simp [h1, h2]
  unfold sgn
  by_cases h1 : a < 0
  · simp [h1]; have := h.1 h1; omega
  · have h2 : ¬ b < 0 := fun h2 => h1 (h.2 h2)
    simp [h1]; omega
theorem sgn_sub_ge {p : Bool} {a b : Int} (ha : decide (a < 0) = p) (hb : decide (b < 0) = !p) (h : b.natAbs ≤ a.natAbs) : sgn p (a.natAbs - b.natAbs) = a + b := by
  subst ha
  unfold sgn
  by_cases h1 : a < 0
  · have h2 : ¬ b < 0 := by simpa [h1] using hb
    simp [h1]; omega
  · have h2 : b < 0 := by simpa [h1] using hb
    simp [h1]; omega
theorem sgn_mul {a b : Int} : sgn (decide (a < 0) != decide (b < 0)) (a.natAbs * b.natAbs) = a * b := by
  unfold sgn
  have h := Int.natAbs_mul a b
  rw [← h]
  by_cases h1 : a < 0 <;> by_cases h2 : b < 0
  · have : 0 ≤ a * b := Int.mul_nonneg_of_nonpos_of_nonpos (by omega) (by omega)
    simp [h1, h2]; omega
  · have : a * b ≤ 0 := Int.mul_nonpos_of_nonpos_of_nonneg (by omega) (by omega)
    simp [h1, h2]; omega
  · have : a * b ≤ 0 := Int.mul_nonpos_of_nonneg_of_nonpos (by omega) (by omega)
    simp [h1, h2]; omega
  · have : 0 ≤ a * b := Int.mul_nonneg (by omega) (by omega)
    simp [h1, h2]; omega
end Gus
