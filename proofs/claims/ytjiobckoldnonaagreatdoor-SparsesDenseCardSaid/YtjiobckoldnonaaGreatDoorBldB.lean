import Derived.Test.YtjiobckoldnonaaGreatDoorBld
/- Builders: New, At, a nil Builder. -/
namespace Gus
open Go Go.RowKit Go.Proofs Go.ChangeMaps Go.MapKept
set_option maxRecDepth 100000 in
theorem new_bad (n m : Int) (h : sidesE n m ≠ 0) (w : World) :
    Calls Tryz.prog 11 #[.int .i64 n, .int .i64 m] w fun e w' => e = .returned (.tuple #[.pointer none, .int .i64 (sidesE n m)]) ∧ Below w.heap.size w w' := by
  have h1 := sides_any n m
  obtain ⟨s, hs⟩ : ∃ s, s = sidesE n m := ⟨_, rfl⟩
  rw [← hs] at h1 h ⊢
  have hb : (s != 0) = true := by simpa using h
  clear hs h
  go_enter Tryz.func11, Tryz.ntmps11
  go_wp2_with fail
  (((with_reducible refine (h1 _).mono ?_)); rintro e w' ⟨rfl, hb⟩; have h := (In.self _).call hb; (try simp only [World.size_alloc] at h); (try simp only [World.size_setCell] at h); clear hb; have hc := h.cell; have hf := h.frozen)
  go_wp2_with fail
  go_ret2
  exact ⟨rfl, by (refine In.bel ?_; (repeat (first | (refine In.setCell ?_ (by first | omega | (simp; done) | (simp; omega)) _) | (refine In.alloc ?_ _) | (refine In.drew ?_))); (first | exact In.self _ | (refine In.out h ?_ (by first | omega | (simp; done) | (simp; omega)); (repeat (first | (refine In.setCell ?_ (by first | omega | (simp; done) | (simp; omega)) _) | (refine In.alloc ?_ _) | (refine In.drew ?_))); exact In.self _)))⟩
set_option maxRecDepth 100000 in
theorem new_ok (N M : Nat) (hN : N ≤ 2048) (hM : M ≤ 2048) (w : World) :
    Calls Tryz.prog 11 #[.int .i64 N, .int .i64 M] w fun e w' => ∃ b, e = .returned (.tuple #[.pointer (some ⟨b + 1, 0, none⟩), .int .i64 0]) ∧ w.heap.size ≤ b ∧ BB w' (b + 1) b 0 N M (fun _ _ => 0) ∧ Below w.heap.size w w' := by
  have h1 := sides_any N M
  rw [show sidesE N M = 0 by unfold sidesE; rw [if_neg (by omega), if_neg (by omega)]] at h1
  have h2 := begun_any N M
  go_enter Tryz.func11, Tryz.ntmps11
  go_wp2_with fail
  (((with_reducible refine (h1 _).mono ?_)); rintro e w' ⟨rfl, hb⟩; have h := (In.self _).call hb; (try simp only [World.size_alloc] at h); (try simp only [World.size_setCell] at h); clear hb; have hc := h.cell; have hf := h.frozen)
  go_wp2_with fail
  ((with_reducible refine (h2 _).mono ?_))
  rintro e w2 ⟨rfl, hb, hbel⟩
  have hsz := h.siz
  have hin := h.call hbel
  obtain ⟨B, hB⟩ : ∃ B, B = w'.heap.size := ⟨_, rfl⟩
  rw [← hB] at hb hsz ⊢
  clear hB hbel h hc hf h1 h2
  go_wp2_with fail
  go_ret2
  exact ⟨B, rfl, hsz, hb, hin.bel⟩
set_option maxRecDepth 100000 in
theorem badd_nil (i k : Int) (q : Rat) (w : World) :
    Calls Tryz.prog 15 #[.pointer none, .int .i64 i, .int .i64 k, fracV q] w fun e w' => e = .returned (.int .i64 2) ∧ Below w.heap.size w w' := by
  go_enter Tryz.func15, Tryz.ntmps15
  go_wp2_with fail
  go_ret
  exact ⟨rfl, by (refine In.bel ?_; (repeat (first | (refine In.setCell ?_ (by first | omega | (simp; done) | (simp; omega)) _) | (refine In.alloc ?_ _) | (refine In.drew ?_))); (first | exact In.self _ | (refine In.out h ?_ (by first | omega | (simp; done) | (simp; omega)); (repeat (first | (refine In.setCell ?_ (by first | omega | (simp; done) | (simp; omega)) _) | (refine In.alloc ?_ _) | (refine In.drew ?_))); exact In.self _)))⟩
set_option maxRecDepth 100000 in
theorem bat_nil (i k : Int) (w : World) :
    Calls Tryz.prog 17 #[.pointer none, .int .i64 i, .int .i64 k] w fun e w' => e = .returned (fracV 0) ∧ Below w.heap.size w w' := by
  have e0 : fracV 0 = .agg #[.int .u64 0, .string ⟨#[]⟩, .bool false, .int .u64 0, .string ⟨#[]⟩] := fracV_int 0
  rw [e0]
  go_enter Tryz.func17, Tryz.ntmps17
  go_wp2_with fail
  exact bodyPost_ret (v := .agg #[.int .u64 0, .string ⟨#[]⟩, .bool false, .int .u64 0, .string ⟨#[]⟩]) (by simp [results, Tryz.results17, go_sem, *]) rfl ⟨rfl, by (refine In.bel ?_; (repeat (first | (refine In.setCell ?_ (by first | omega | (simp; done) | (simp; omega)) _) | (refine In.alloc ?_ _) | (refine In.drew ?_))); (first | exact In.self _ | (refine In.out h ?_ (by first | omega | (simp; done) | (simp; omega)); (repeat (first | (refine In.setCell ?_ (by first | omega | (simp; done) | (simp; omega)) _) | (refine In.alloc ?_ _) | (refine In.drew ?_))); exact In.self _)))⟩
theorem BM.lookup_out {w : World} {b n N M : Nat} {f : Nat → Nat → Rat} (h : BM w b n N M f) (hN : N ≤ 2048) (hM : M ≤ 2048) {i k : Int} (hi : (Lit.int .i64 i).wf = true) (hk : (Lit.int .i64 k).wf = true) (ho : ¬ (0 ≤ i ∧ i < N ∧ 0 ≤ k ∧ k < M)) :
    (Instr.lookup 138 (.map (some b)) (posV i k) false).run Tryz.prog w = .ok (fracV 0) w := by
  obtain ⟨D, h1, h2, h3, h4, h5⟩ := h
  have hkey := posL_of hi hk
  obtain ⟨v, ps, hr, hv⟩ := h1.lookup place_keyed Tryz.underlying138 (zeroFrac w) (Rf_frac 0) hkey
  have hno : Maps.has D (posL i k) = false := by
    cases hh : Maps.has D (posL i k) with
    | false => rfl
    | true =>
      exfalso
      obtain ⟨a, c, ha, hc, he⟩ := h5 _ hh
      have e2 := posL_at (show a < 2048 by omega) (show c < 2048 by omega)
      rw [← he] at e2
      have := place_keyed.inj hkey e2
      simp only [posV, Value.agg.injEq] at this
      have h3 := congrArg Array.toList this
      simp only [List.cons.injEq, Value.int.injEq, true_and, and_true] at h3
      omega
  rw [Maps.atKey_of_not_has hno] at hv
  obtain ⟨q, rfl, hq⟩ := Rf_inv hv
  cases hq
  exact hr
/-- the entry at any position -/
def atF (N M : Nat) (f : Nat → Nat → Rat) (i k : Int) : Rat := if 0 ≤ i ∧ i < N ∧ 0 ≤ k ∧ k < M then f i.toNat k.toNat else 0
theorem BM.lookup_any {w : World} {b n N M : Nat} {f : Nat → Nat → Rat} (h : BM w b n N M f) (hN : N ≤ 2048) (hM : M ≤ 2048) {i k : Int} (hi : (Lit.int .i64 i).wf = true) (hk : (Lit.int .i64 k).wf = true) :
    (Instr.lookup 138 (.map (some b)) (posV i k) false).run Tryz.prog w = .ok (fracV (atF N M f i k)) w := by
  unfold atF
  by_cases ho : 0 ≤ i ∧ i < N ∧ 0 ≤ k ∧ k < M
  · rw [if_pos ho]
    obtain ⟨a, rfl⟩ := Int.eq_ofNat_of_zero_le ho.1
    obtain ⟨c, rfl⟩ := Int.eq_ofNat_of_zero_le ho.2.2.1
    exact h.lookup hN hM (by omega) (by omega)
  · rw [if_neg ho]
    exact h.lookup_out hN hM hi hk ho
set_option maxRecDepth 100000 in
theorem bat_any (w : World) (p b n N M : Nat) (f : Nat → Nat → Rat) (i k : Int) (hB : BB w p b n N M f) (hN : N ≤ 2048) (hM : M ≤ 2048) (hi : (Lit.int .i64 i).wf = true) (hk : (Lit.int .i64 k).wf = true) :
    Calls Tryz.prog 17 #[.pointer (some ⟨p, 0, none⟩), .int .i64 i, .int .i64 k] w fun e w' => e = .returned (fracV (atF N M f i k)) ∧ Below w.heap.size w w' := by
  have c2 := hB.1.c2
  have hp := hB.1.lt
  have hl : ∀ o, (Instr.lookup 138 (.map (some b)) (posV i k) false).run Tryz.prog (w.alloc o) = .ok (fracV (atF N M f i k)) (w.alloc o) := fun o => (hB.2.alloc o).lookup_any hN hM hi hk
  obtain ⟨q, hq⟩ : ∃ q, q = atF N M f i k := ⟨_, rfl⟩
  rw [← hq] at hl ⊢
  clear hq hB hi hk
  go_enter Tryz.func17, Tryz.ntmps17
  go_wp2_with fail
  exact bodyPost_ret (v := fracV q) (by simp [results, Tryz.results17, go_sem, *]) rfl ⟨rfl, by (refine In.bel ?_; (repeat (first | (refine In.setCell ?_ (by first | omega | (simp; done) | (simp; omega)) _) | (refine In.alloc ?_ _) | (refine In.drew ?_))); (first | exact In.self _ | (refine In.out h ?_ (by first | omega | (simp; done) | (simp; omega)); (repeat (first | (refine In.setCell ?_ (by first | omega | (simp; done) | (simp; omega)) _) | (refine In.alloc ?_ _) | (refine In.drew ?_))); exact In.self _)))⟩
end Gus
