/- Proved here: parts of the proof: Box NatN Int. Conditions: those that each theorem states. -/
import Derived.Test.YtakblfhmllgepaaGreatDoorNatLQ
import Derived.Deep.LoopGhost
import Derived.Test.YtakblfhmllgepaaGreatDoorEnc
section
/- Blocks known whole. -/
namespace Gus
open Go Go.RowKit Go.Proofs
/-- block b holds just these cells, none frozen -/
def Bx (w : World) (b : Nat) (T : TypeId) (cs : List Value) : Prop := w.heap[b]? = some (.cells cs.toArray T (0, 0))
section
variable {w w' : World} {b : Nat} {T : TypeId} {cs : List Value}
theorem Bx.cell (h : Bx w b T cs) (i : Nat) : w.cell? ⟨b, i, none⟩ = cs[i]? := by
  unfold World.cell?
  have h' : w.heap[b]? = _ := h
  simp [h']
theorem Bx.frozen (h : Bx w b T cs) (i : Nat) : w.frozen? ⟨b, i, none⟩ = false := frozen_of_row w b i _ _ h
theorem Bx.lt (h : Bx w b T cs) : b < w.heap.size := (Array.getElem?_eq_some_iff.1 h).1
theorem Bx.below {N : Nat} (h : Bx w b T cs) (hb : Below N w w') (hN : b < N) : Bx w' b T cs := by
  unfold Bx; rw [hb.block b hN]; exact h
theorem Bx.call (h : Bx w b T cs) (hb : Below w.heap.size w w') : Bx w' b T cs := h.below hb h.lt
theorem Bx.alloc (h : Bx w b T cs) (o : Obj) : Bx (w.alloc o) b T cs := (Below.heap_alloc w o b h.lt).trans h
theorem Bx.drew (h : Bx w b T cs) : Bx w.drew b T cs := h
theorem Bx.grown {row : Option Nat} (h : Bx w b T cs) (hg : w.grownBy w' row) (hr : some b ≠ row) : Bx w' b T cs := by
  unfold Bx; rw [hg.block b h.lt hr]; exact h
theorem Bx.set (h : Bx w b T cs) (i : Nat) (v : Value) : Bx (w.setCell ⟨b, i, none⟩ v) b T (cs.set i v) := by
  unfold Bx
  rw [heap_setCell_same w b i _ _ _ h]
  simp
theorem Bx.other {a : Addr} (h : Bx w b T cs) (hne : a.block ≠ b) (v : Value) : Bx (w.setCell a v) b T cs := by
  unfold Bx; rw [heap_setCell_other w a b v (Ne.symm hne)]; exact h
theorem Bx.new (w : World) (cs : Array Value) (T : TypeId) : Bx (w.alloc (.cells cs T (0, 0))) w.heap.size T cs.toList := by
  unfold Bx; exact heap_alloc_new w _
theorem Bx.new_at (w : World) (cs : Array Value) (T : TypeId) {n : Nat} (hn : n = w.heap.size) : Bx (w.alloc (.cells cs T (0, 0))) n T cs.toList := by
  subst hn; exact .new w cs T
theorem Bx.c0 {x0 : Value} {l : List Value} (h : Bx w b T (x0 :: l)) : w.cell? ⟨b, 0, none⟩ = some x0 := h.cell 0
theorem Bx.c1 {x0 x1 : Value} {l : List Value} (h : Bx w b T (x0 :: x1 :: l)) : w.cell? ⟨b, 1, none⟩ = some x1 := h.cell 1
theorem Bx.c2 {x0 x1 x2 : Value} {l : List Value} (h : Bx w b T (x0 :: x1 :: x2 :: l)) : w.cell? ⟨b, 2, none⟩ = some x2 := h.cell 2
theorem Bx.c3 {x0 x1 x2 x3 : Value} {l : List Value} (h : Bx w b T (x0 :: x1 :: x2 :: x3 :: l)) : w.cell? ⟨b, 3, none⟩ = some x3 := h.cell 3
theorem Bx.c4 {x0 x1 x2 x3 x4 : Value} {l : List Value} (h : Bx w b T (x0 :: x1 :: x2 :: x3 :: x4 :: l)) : w.cell? ⟨b, 4, none⟩ = some x4 := h.cell 4
theorem Bx.c5 {x0 x1 x2 x3 x4 x5 : Value} {l : List Value} (h : Bx w b T (x0 :: x1 :: x2 :: x3 :: x4 :: x5 :: l)) : w.cell? ⟨b, 5, none⟩ = some x5 := h.cell 5
theorem Bx.c6 {x0 x1 x2 x3 x4 x5 x6 : Value} {l : List Value} (h : Bx w b T (x0 :: x1 :: x2 :: x3 :: x4 :: x5 :: x6 :: l)) : w.cell? ⟨b, 6, none⟩ = some x6 := h.cell 6
theorem Bx.c7 {x0 x1 x2 x3 x4 x5 x6 x7 : Value} {l : List Value} (h : Bx w b T (x0 :: x1 :: x2 :: x3 :: x4 :: x5 :: x6 :: x7 :: l)) : w.cell? ⟨b, 7, none⟩ = some x7 := h.cell 7
end
/-- block b is a variable of type Nat that holds n -/
abbrev natB (w : World) (b : Nat) (n : Nat) : Prop := Bx w b 50 [.int .u64 (lo n), .string (bg n)]
theorem natB.set {w : World} {b n : Nat} (h : natB w b n) (m : Nat) : natB ((w.setCell ⟨b, 0, none⟩ (.int .u64 (lo m))).setCell ⟨b, 1, none⟩ (.string (bg m))) b m := (Bx.set h 0 (.int .u64 (lo m))).set 1 (.string (bg m))
theorem natB.of {w : World} {b n : Nat} (h : natB w b n) : natB w b n := h
theorem wd_mono {m n : Nat} (h : m ≤ n) : (wd m).length ≤ (wd n).length := by
  refine Decidable.by_contra fun hh => ?_
  have := lt_of_length (m := n) (n := m) (by omega)
  omega
end Gus
end
section
/- The greatest common divisor of two numbers. -/
namespace Gus
open Go Go.RowKit Go.Proofs
set_option maxRecDepth 100000 in
set_option maxHeartbeats 1000000 in
/-- nats.Gcd -/
theorem gcd_any (m n : Nat) (hm : (wd m).length ≤ 549755813888) (hn : (wd n).length ≤ 549755813888) (w : World) :
    Calls Tryz.prog 97 #[natV m, natV n] w fun e w' => e = .returned (natV (Nat.gcd m n)) ∧ Below w.heap.size w w' := by
  obtain ⟨N, hN⟩ : ∃ N, N = w.heap.size := ⟨_, rfl⟩
  have HN := Lib.hid hN
  go_enter Tryz.func97, Tryz.ntmps97
  go_upto_region 1 with fail
  rw [← hN]
  obtain ⟨W, hW⟩ : ∃ W, W = ((w.alloc (.cells #[.int .u64 (lo m), .string (bg m)] 50)).alloc (.cells #[.int .u64 (lo n), .string (bg n)] 50)).alloc (.cells #[.int .u64 0, .string ⟨#[]⟩] 50) := ⟨_, rfl⟩
  rw [← hW]
  have b0 : natB W N m := by rw [hW]; exact ((Bx.new_at w _ _ hN).alloc _).alloc _
  have b1 : natB W (N + 1) n := by rw [hW]; exact (Bx.new_at _ _ _ (by rw [World.size_alloc, hN])).alloc _
  have b2 : natB W (N + 1 + 1) 0 := by rw [hW]; exact Bx.new_at _ _ _ (by rw [World.size_alloc, World.size_alloc, hN])
  have hI : In N w W := by rw [hW, hN]; exact (((In.self w).alloc _).alloc _).alloc _
  have hz : N + 1 + 1 < W.heap.size := b2.lt
  clear hW hN
  go_loopg [] n (fun k wr => ∃ a, natB wr N a ∧ natB wr (N + 1) k ∧ natB wr (N + 1 + 1) 0 ∧ In N w wr ∧ N + 1 + 1 < wr.heap.size ∧ Nat.gcd a k = Nat.gcd m n ∧ (wd a).length ≤ 549755813888 ∧ (wd k).length ≤ 549755813888)
  case atStart => exact ⟨m, b0, b1, b2, hI, hz, rfl, hm, hn⟩
  case round =>
    clear b0 b1 b2 hI hz hm hn
    obtain ⟨a, b0, b1, b2, hI, hz, hg, ha, hk⟩ := hrel
    have HG := Lib.hid hg
    clear hg
    have d0 := b0.c0
    have d1 := b0.c1
    have d2 := b1.c0
    have d3 := b1.c1
    have d4 := b2.c0
    have d5 := b2.c1
    have f4 := b2.frozen 0
    have f5 := b2.frozen 1
    by_cases h0 : gk = 0
    · subst h0
      have hga : a = Nat.gcd m n := by rw [← HG.out, Nat.gcd_zero_right]
      have HGA := Lib.hid hga
      clear hga
      go_wp2_with fail
      refine (zero_any 0 _).mono ?_
      rintro e w1 ⟨rfl, hb1⟩
      have d0' := (b0.call hb1).c0
      have d1' := (b0.call hb1).c1
      have b2' := b2.call hb1
      have d4' := b2'.c0
      have d5' := b2'.c1
      have f4' := b2'.frozen 0
      have f5' := b2'.frozen 1
      have hI' := hI.call hb1
      clear d0 d1 d2 d3 d4 d5 f4 f5 hb1 b0 b1 b2 hI
      go_wp2_with fail
      exact bodyPost_ret (v := natV a) (by simp [results, Tryz.results97, go_sem, d4', d5']) rfl ⟨by rw [HGA.out], by rw [← HN.out]; exact ((hI'.setCell (by simp; omega) _).setCell (by simp; omega) _).bel⟩
    · go_wp2_with fail
      refine (zero_any gk _).mono ?_
      rintro e w1 ⟨rfl, hb1⟩
      have hI' := hI.call hb1
      have b0' := b0.call hb1
      have b1' := b1.call hb1
      have b2' := b2.call hb1
      have hz' : N + 1 + 1 < w1.heap.size := b2'.lt
      clear d0 d1 d2 d3 d4 d5 f4 f5 hb1 b0 b1 b2 hI hz
      have d0 := b0'.c0
      have d1 := b0'.c1
      have d2 := b1'.c0
      have d3 := b1'.c1
      go_wp2_with fail
      refine (div_any a gk h0 ha hk _).mono ?_
      rintro e w2 ⟨rfl, hb2⟩
      have hI := hI'.call hb2
      have b0 := b0'.call hb2
      have b1 := b1'.call hb2
      have b2 := b2'.call hb2
      have hz : N + 1 + 1 < w2.heap.size := b2.lt
      clear d0 d1 d2 d3 hb2 b0' b1' b2' hI' hz'
      have d0 := b0.c0
      have d1 := b0.c1
      have d2 := b1.c0
      have d3 := b1.c1
      have f0 := b0.frozen 0
      have f1 := b0.frozen 1
      have f2 := b1.frozen 0
      have f3 := b1.frozen 1
      go_upto_region 3 with fail
      have hg2 : Nat.gcd gk (a % gk) = Nat.gcd m n := by rw [← HG.out, Nat.gcd_comm a gk, Nat.gcd_rec gk a, Nat.gcd_comm]
      have hlt : a % gk < gk := Nat.mod_lt _ (by omega)
      have HG2 := Lib.hid hg2
      obtain ⟨q, hq⟩ : ∃ q, q = a / gk := ⟨_, rfl⟩
      obtain ⟨r, hr⟩ : ∃ r, r = a % gk := ⟨_, rfl⟩
      rw [← hr] at HG2 hlt
      rw [← hq, ← hr]
      clear hq hr hg2
      have g1 := ((((((Bx.other b1 (a := ⟨N, 0, none⟩) (by simp) (.int .u64 (lo gk))).other (a := ⟨N, 1, none⟩) (by simp) (.string (bg gk))).set 0 (.int .u64 (lo r))).set 1 (.string (bg r))).alloc (.cells #[.int .u64 (lo q), .string (bg q)] 50)).alloc (.cells #[.int .u64 (lo r), .string (bg r)] 50)).drew
      have g0 := ((((((Bx.set b0 0 (.int .u64 (lo gk))).set 1 (.string (bg gk))).other (a := ⟨N + 1, 0, none⟩) (by simp) (.int .u64 (lo r))).other (a := ⟨N + 1, 1, none⟩) (by simp) (.string (bg r))).alloc (.cells #[.int .u64 (lo q), .string (bg q)] 50)).alloc (.cells #[.int .u64 (lo r), .string (bg r)] 50)).drew
      have g2 := ((((((Bx.other b2 (a := ⟨N, 0, none⟩) (by simp; omega) (.int .u64 (lo gk))).other (a := ⟨N, 1, none⟩) (by simp; omega) (.string (bg gk))).other (a := ⟨N + 1, 0, none⟩) (by simp) (.int .u64 (lo r))).other (a := ⟨N + 1, 1, none⟩) (by simp) (.string (bg r))).alloc (.cells #[.int .u64 (lo q), .string (bg q)] 50)).alloc (.cells #[.int .u64 (lo r), .string (bg r)] 50)).drew
      have hI3 := ((((((hI.setCell (p := ⟨N, 0, none⟩) (Nat.le_refl _) (.int .u64 (lo gk))).setCell (p := ⟨N, 1, none⟩) (Nat.le_refl _) (.string (bg gk))).setCell (p := ⟨N + 1, 0, none⟩) (Nat.le_succ _) (.int .u64 (lo r))).setCell (p := ⟨N + 1, 1, none⟩) (Nat.le_succ _) (.string (bg r))).alloc (.cells #[.int .u64 (lo q), .string (bg q)] 50)).alloc (.cells #[.int .u64 (lo r), .string (bg r)] 50)).drew
      have hz0 : N < w2.heap.size := by omega
      have hz1 : N + 1 < w2.heap.size := by omega
      go_region
      go_wp2_with fail
      go_roundg r
      case measure => exact hlt
      case rel => exact ⟨gk, g0, g1, g2, hI3, g2.lt, HG2.out, hk, Nat.le_trans (wd_mono (Nat.le_of_lt hlt)) hk⟩
end Gus
end
section
/- Integers. -/
namespace Gus
open Go Go.RowKit Go.Proofs
def sgn (b : Bool) (n : Nat) : Int := if b then -(n : Int) else n
theorem sgn_abs (b : Bool) (n : Nat) : (sgn b n).natAbs = n := by unfold sgn; split <;> simp
theorem sgn_neg (b : Bool) (n : Nat) : decide (sgn b n < 0) = (b && !decide (n = 0)) := by
  unfold sgn
  cases b
  · simp
  · by_cases h : n = 0
    · simp [h]
    · simp [h]; omega
theorem intV_sgn (b : Bool) (n : Nat) : intV (sgn b n) = .agg #[.int .u64 (lo n), .string (bg n), .bool (b && !decide (n = 0))] := by
  rw [intV, sgn_abs, sgn_neg]
theorem sizeEq0_run (n : Nat) (w : World) : (binOp .eql 52 (natV n) (.agg #[.int .u64 0, .string ⟨#[]⟩])).run Tryz.prog w = .ok (.bool (decide (n = 0))) w := by
  have h0 := nat_zero_iff n
  simp [go_sem]
  by_cases h1 : lo n = 0
  · by_cases h2 : (bg n).toList = []
    · have := h0.1 ⟨h1, h2⟩
      subst this
      simp [h1, h2]
    · have : ¬ n = 0 := fun h => h2 (h0.2 h).2
      simp [h1, h2, this]
  · have : ¬ n = 0 := fun h => h1 (h0.2 h).1
    simp [h1, this]
theorem szero_any (n : Nat) (w : World) :
    Calls Tryz.prog 105 #[natV n] w fun e w' => e = .returned (.bool (decide (n = 0))) ∧ Below w.heap.size w w' := by
  have hz := sizeEq0_run n
  go_enter Tryz.func105, Tryz.ntmps105
  go_wp2_with fail
  go_ret
  exact ⟨rfl, by (refine In.bel ?_; (repeat (first | (refine In.setCell ?_ (by first | omega | (simp; done) | (simp; omega)) _) | (refine In.alloc ?_ _) | (refine In.drew ?_))); (first | exact In.self _ | (refine In.out h ?_ (by first | omega | (simp; done) | (simp; omega)); (repeat (first | (refine In.setCell ?_ (by first | omega | (simp; done) | (simp; omega)) _) | (refine In.alloc ?_ _) | (refine In.drew ?_))); exact In.self _)))⟩
set_option maxRecDepth 100000 in
set_option maxHeartbeats 400000 in
theorem from_any (b : Bool) (n : Nat) (w : World) :
    Calls Tryz.prog 78 #[.bool b, natV n] w fun e w' => e = .returned (intV (sgn b n)) ∧ Below w.heap.size w w' := by
  rw [intV_sgn]
  cases b
  · go_enter Tryz.func78, Tryz.ntmps78
    go_wp2_with fail
    refine wp_region_tail (In _ _) 8 (by kernel_rfl) (by kernel_rfl) (In.drew (In.self _)) ?_; simp only [List.take_succ_cons, List.take_zero, List.drop_succ_cons, List.drop_zero]; (repeat (first | ((with_reducible refine wpQuiet_run0 (v := ?_) ?_ ?_ ?_); rotate_left 1; (focus (with_reducible rfl)); (focus (intro w' hw'; have hc' := hw'.cell; go_simp; exact rfl)); (try simp only [Act.put]); (try simp only [List.setIfInBounds_toArray]); (try simp only [List.set])) | ((with_reducible refine wpQuiet_skipg (j := ?_) (b := ?_) ?_ ?_ ?_); rotate_left 2; (focus (with_reducible rfl)); (focus rfl); (try simp only [Act.put]); (try simp only [List.setIfInBounds_toArray]); (try simp only [List.set])) | ((with_reducible refine wpQuiet_rung (v := ?_) (j := ?_) (b := ?_) ?_ ?_ ?_ ?_); rotate_left 3; (focus (with_reducible rfl)); (focus rfl); (focus (intro w' hw'; have hc' := hw'.cell; go_simp; exact rfl)); (try simp only [Act.put]); (try simp only [List.setIfInBounds_toArray]); (try simp only [List.set])) | ((with_reducible refine wpQuiet_run0 (v := ?_) ?_ ?_ ?_); rotate_left 1; (focus (with_reducible rfl)); (focus (intro w' hw'; (try simp only [World.size_alloc] at hw'); go_simp; go_at_call 105; refine (szero_any n _).mono ?_; rintro e w'' ⟨rfl, hb⟩; refine ⟨?_, hw'.call hb⟩; exact rfl)); (try simp only [Act.put]); (try simp only [List.setIfInBounds_toArray]); (try simp only [List.set])) | ((with_reducible refine wpQuiet_rung (v := ?_) (j := ?_) (b := ?_) ?_ ?_ ?_ ?_); rotate_left 3; (focus (with_reducible rfl)); (focus rfl); (focus (intro w' hw'; (try simp only [World.size_alloc] at hw'); go_simp; go_at_call 105; refine (szero_any n _).mono ?_; rintro e w'' ⟨rfl, hb⟩; refine ⟨?_, hw'.call hb⟩; exact rfl)); (try simp only [Act.put]); (try simp only [List.setIfInBounds_toArray]); (try simp only [List.set])))); refine wpQuiet_nil ?_; (try clear hc hf h); intro w' h; (try simp only [World.size_alloc] at h); have hc := h.cell; have hf := h.frozen
    go_wp2_with fail
    exact bodyPost_ret (v := .agg #[.int .u64 (lo n), .string (bg n), .bool false]) (by simp [results, Tryz.results78, go_sem, *]) rfl ⟨rfl, by (refine In.bel ?_; (repeat (first | (refine In.setCell ?_ (by first | omega | (simp; done) | (simp; omega)) _) | (refine In.alloc ?_ _) | (refine In.drew ?_))); (first | exact In.self _ | (refine In.out h ?_ (by first | omega | (simp; done) | (simp; omega)); (repeat (first | (refine In.setCell ?_ (by first | omega | (simp; done) | (simp; omega)) _) | (refine In.alloc ?_ _) | (refine In.drew ?_))); exact In.self _)))⟩
  · go_enter Tryz.func78, Tryz.ntmps78
    go_wp2_with fail
    refine wp_region_tail (In _ _) 8 (by kernel_rfl) (by kernel_rfl) (In.drew (In.self _)) ?_; simp only [List.take_succ_cons, List.take_zero, List.drop_succ_cons, List.drop_zero]; (repeat (first | ((with_reducible refine wpQuiet_run0 (v := ?_) ?_ ?_ ?_); rotate_left 1; (focus (with_reducible rfl)); (focus (intro w' hw'; have hc' := hw'.cell; go_simp; exact rfl)); (try simp only [Act.put]); (try simp only [List.setIfInBounds_toArray]); (try simp only [List.set])) | ((with_reducible refine wpQuiet_skipg (j := ?_) (b := ?_) ?_ ?_ ?_); rotate_left 2; (focus (with_reducible rfl)); (focus rfl); (try simp only [Act.put]); (try simp only [List.setIfInBounds_toArray]); (try simp only [List.set])) | ((with_reducible refine wpQuiet_rung (v := ?_) (j := ?_) (b := ?_) ?_ ?_ ?_ ?_); rotate_left 3; (focus (with_reducible rfl)); (focus rfl); (focus (intro w' hw'; have hc' := hw'.cell; go_simp; exact rfl)); (try simp only [Act.put]); (try simp only [List.setIfInBounds_toArray]); (try simp only [List.set])) | ((with_reducible refine wpQuiet_run0 (v := ?_) ?_ ?_ ?_); rotate_left 1; (focus (with_reducible rfl)); (focus (intro w' hw'; (try simp only [World.size_alloc] at hw'); go_simp; go_at_call 105; refine (szero_any n _).mono ?_; rintro e w'' ⟨rfl, hb⟩; refine ⟨?_, hw'.call hb⟩; exact rfl)); (try simp only [Act.put]); (try simp only [List.setIfInBounds_toArray]); (try simp only [List.set])) | ((with_reducible refine wpQuiet_rung (v := ?_) (j := ?_) (b := ?_) ?_ ?_ ?_ ?_); rotate_left 3; (focus (with_reducible rfl)); (focus rfl); (focus (intro w' hw'; (try simp only [World.size_alloc] at hw'); go_simp; go_at_call 105; refine (szero_any n _).mono ?_; rintro e w'' ⟨rfl, hb⟩; refine ⟨?_, hw'.call hb⟩; exact rfl)); (try simp only [Act.put]); (try simp only [List.setIfInBounds_toArray]); (try simp only [List.set])))); refine wpQuiet_nil ?_; (try clear hc hf h); intro w' h; (try simp only [World.size_alloc] at h); have hc := h.cell; have hf := h.frozen
    go_wp2_with fail
    exact bodyPost_ret (v := .agg #[.int .u64 (lo n), .string (bg n), .bool (!decide (n = 0))]) (by simp [results, Tryz.results78, go_sem, *]) rfl ⟨rfl, by (refine In.bel ?_; (repeat (first | (refine In.setCell ?_ (by first | omega | (simp; done) | (simp; omega)) _) | (refine In.alloc ?_ _) | (refine In.drew ?_))); (first | exact In.self _ | (refine In.out h ?_ (by first | omega | (simp; done) | (simp; omega)); (repeat (first | (refine In.setCell ?_ (by first | omega | (simp; done) | (simp; omega)) _) | (refine In.alloc ?_ _) | (refine In.drew ?_))); exact In.self _)))⟩
set_option maxRecDepth 100000 in
set_option maxHeartbeats 400000 in
theorem intOf_any (x : Int) (h0 : -9223372036854775808 ≤ x) (h1 : x < 9223372036854775808) (w : World) :
    Calls Tryz.prog 47 #[.int .i64 x] w fun e w' => e = .returned (intV x) ∧ Below w.heap.size w w' := by
  by_cases hx : x < 0
  · have hs : sgn true x.natAbs = x := by unfold sgn; rw [if_pos rfl]; omega
    have hw1 : IntKind.u64.wrap (-(IntKind.u64.wrap x)) = -x := by simp [IntKind.wrap, IntKind.bits, IntKind.signed]; omega
    have hN := natOf_any (-x) (by omega) (by omega)
    rw [show (-x).toNat = x.natAbs by omega] at hN
    have hF := from_any true x.natAbs
    rw [hs] at hF
    have HS := Lib.hid hs
    clear hs
    go_enter Tryz.func47, Tryz.ntmps47
    go_wp2_with fail
    (refine (hN _).mono ?_; rintro e w' ⟨rfl, hb⟩; have h := (In.self _).call hb; (try simp only [World.size_alloc] at h); (try simp only [World.size_setCell] at h); clear hb; have hc := h.cell; have hf := h.frozen)
    go_wp2_with fail
    (refine (hF _).mono ?_; rintro e w' ⟨rfl, hb⟩; replace h := In.call (by first | exact h | exact h.drew | exact h.alloc _ | exact (h.alloc _).alloc _ | exact ((h.alloc _).alloc _).alloc _) hb; clear hb hc hf; have hc := h.cell; have hf := h.frozen)
    go_wp2_with fail
    exact bodyPost_ret (v := intV x) (by simp [results, Tryz.results47, go_sem, *]) rfl ⟨rfl, by (refine In.bel ?_; (repeat (first | (refine In.setCell ?_ (by first | omega | (simp; done) | (simp; omega)) _) | (refine In.alloc ?_ _) | (refine In.drew ?_))); (first | exact In.self _ | (refine In.out h ?_ (by first | omega | (simp; done) | (simp; omega)); (repeat (first | (refine In.setCell ?_ (by first | omega | (simp; done) | (simp; omega)) _) | (refine In.alloc ?_ _) | (refine In.drew ?_))); exact In.self _)))⟩
  · have hs : sgn false x.natAbs = x := by unfold sgn; rw [if_neg (by simp)]; omega
    have hw1 : IntKind.u64.wrap x = x := by simp [IntKind.wrap, IntKind.bits, IntKind.signed]; omega
    have hN := natOf_any x (by omega) (by omega)
    rw [show x.toNat = x.natAbs by omega] at hN
    have hF := from_any false x.natAbs
    rw [hs] at hF
    have HS := Lib.hid hs
    clear hs
    go_enter Tryz.func47, Tryz.ntmps47
    go_wp2_with fail
    (refine (hN _).mono ?_; rintro e w' ⟨rfl, hb⟩; have h := (In.self _).call hb; (try simp only [World.size_alloc] at h); (try simp only [World.size_setCell] at h); clear hb; have hc := h.cell; have hf := h.frozen)
    go_wp2_with fail
    (refine (hF _).mono ?_; rintro e w' ⟨rfl, hb⟩; replace h := In.call (by first | exact h | exact h.drew | exact h.alloc _ | exact (h.alloc _).alloc _ | exact ((h.alloc _).alloc _).alloc _) hb; clear hb hc hf; have hc := h.cell; have hf := h.frozen)
    go_wp2_with fail
    exact bodyPost_ret (v := intV x) (by simp [results, Tryz.results47, go_sem, *]) rfl ⟨rfl, by (refine In.bel ?_; (repeat (first | (refine In.setCell ?_ (by first | omega | (simp; done) | (simp; omega)) _) | (refine In.alloc ?_ _) | (refine In.drew ?_))); (first | exact In.self _ | (refine In.out h ?_ (by first | omega | (simp; done) | (simp; omega)); (repeat (first | (refine In.setCell ?_ (by first | omega | (simp; done) | (simp; omega)) _) | (refine In.alloc ?_ _) | (refine In.drew ?_))); exact In.self _)))⟩
theorem abs_any (z : Int) (w : World) :
    Calls Tryz.prog 79 #[intV z] w fun e w' => e = .returned (natV z.natAbs) ∧ Below w.heap.size w w' := by
  go_enter Tryz.func79, Tryz.ntmps79
  go_wp2_with fail
  exact bodyPost_ret (v := natV z.natAbs) (by simp [results, Tryz.results79, go_sem, *]) rfl ⟨rfl, by (refine In.bel ?_; (repeat (first | (refine In.setCell ?_ (by first | omega | (simp; done) | (simp; omega)) _) | (refine In.alloc ?_ _) | (refine In.drew ?_))); (first | exact In.self _ | (refine In.out h ?_ (by first | omega | (simp; done) | (simp; omega)); (repeat (first | (refine In.setCell ?_ (by first | omega | (simp; done) | (simp; omega)) _) | (refine In.alloc ?_ _) | (refine In.drew ?_))); exact In.self _)))⟩
def isign (z : Int) : Int := if z < 0 then -1 else if z = 0 then 0 else 1
set_option maxRecDepth 100000 in
theorem isign_any (z : Int) (w : World) :
    Calls Tryz.prog 68 #[intV z] w fun e w' => e = .returned (.int .i64 (isign z)) ∧ Below w.heap.size w w' := by
  have hZ := szero_any z.natAbs
  rw [intV]
  rcases Int.lt_trichotomy z 0 with h | h | h
  · have e : isign z = -1 := by unfold isign; rw [if_pos h]
    have h1 : decide (z < 0) = true := by simp [h]
    have h2 : decide (z.natAbs = 0) = false := by simp; omega
    rw [e, h1]
    rw [h2] at hZ
    clear h1 h2 e
    go_enter Tryz.func68, Tryz.ntmps68
    go_wp2_with fail
    (refine (hZ _).mono ?_; rintro e w' ⟨rfl, hb⟩; have h := (In.self _).call hb; (try simp only [World.size_alloc] at h); (try simp only [World.size_setCell] at h); clear hb; have hc := h.cell; have hf := h.frozen)
    go_wp2_with fail
    go_ret
    exact ⟨rfl, by (refine In.bel ?_; (repeat (first | (refine In.setCell ?_ (by first | omega | (simp; done) | (simp; omega)) _) | (refine In.alloc ?_ _) | (refine In.drew ?_))); (first | exact In.self _ | (refine In.out h ?_ (by first | omega | (simp; done) | (simp; omega)); (repeat (first | (refine In.setCell ?_ (by first | omega | (simp; done) | (simp; omega)) _) | (refine In.alloc ?_ _) | (refine In.drew ?_))); exact In.self _)))⟩
  · have e : isign z = 0 := by subst h; rfl
    have h1 : decide (z < 0) = false := by simp; omega
    have h2 : decide (z.natAbs = 0) = true := by simp; omega
    rw [e, h1]
    rw [h2] at hZ
    clear h1 h2 e h
    go_enter Tryz.func68, Tryz.ntmps68
    go_wp2_with fail
    (refine (hZ _).mono ?_; rintro e w' ⟨rfl, hb⟩; have h := (In.self _).call hb; (try simp only [World.size_alloc] at h); (try simp only [World.size_setCell] at h); clear hb; have hc := h.cell; have hf := h.frozen)
    go_wp2_with fail
    go_ret
    exact ⟨rfl, by (refine In.bel ?_; (repeat (first | (refine In.setCell ?_ (by first | omega | (simp; done) | (simp; omega)) _) | (refine In.alloc ?_ _) | (refine In.drew ?_))); (first | exact In.self _ | (refine In.out h ?_ (by first | omega | (simp; done) | (simp; omega)); (repeat (first | (refine In.setCell ?_ (by first | omega | (simp; done) | (simp; omega)) _) | (refine In.alloc ?_ _) | (refine In.drew ?_))); exact In.self _)))⟩
  · have e : isign z = 1 := by unfold isign; rw [if_neg (by omega), if_neg (by omega)]
    have h1 : decide (z < 0) = false := by simp; omega
    have h2 : decide (z.natAbs = 0) = false := by simp; omega
    rw [e, h1]
    rw [h2] at hZ
    clear h1 h2 e
    go_enter Tryz.func68, Tryz.ntmps68
    go_wp2_with fail
    (refine (hZ _).mono ?_; rintro e w' ⟨rfl, hb⟩; have h := (In.self _).call hb; (try simp only [World.size_alloc] at h); (try simp only [World.size_setCell] at h); clear hb; have hc := h.cell; have hf := h.frozen)
    go_wp2_with fail
    go_ret
    exact ⟨rfl, by (refine In.bel ?_; (repeat (first | (refine In.setCell ?_ (by first | omega | (simp; done) | (simp; omega)) _) | (refine In.alloc ?_ _) | (refine In.drew ?_))); (first | exact In.self _ | (refine In.out h ?_ (by first | omega | (simp; done) | (simp; omega)); (repeat (first | (refine In.setCell ?_ (by first | omega | (simp; done) | (simp; omega)) _) | (refine In.alloc ?_ _) | (refine In.drew ?_))); exact In.self _)))⟩
/-- a number of a size that the contracts take -/
def Wl (n : Nat) : Prop := (wd n).length ≤ 549755813888
theorem sgn_add_same {p : Bool} {a b : Int} (ha : decide (a < 0) = p) (hb : decide (b < 0) = p) : sgn p (a.natAbs + b.natAbs) = a + b := by
  subst ha
  have h : (a < 0 ↔ b < 0) := by
    by_cases h1 : a < 0 <;> by_cases h2 : b < 0 <;> simp [h1, h2] at hb <;> simp [h1, h2]
  unfold sgn
  by_cases h1 : a < 0
  · simp [h1]; have := h.1 h1; omega
  · have h2 : ¬ b < 0 := fun h2 => h1 (h.2 h2)
    simp [h1]; omega
theorem sgn_sub_ge {p : Bool} {a b : Int} (ha : decide (a < 0) = p) (hb : decide (b < 0) = !p) (h : b.natAbs ≤ a.natAbs) : sgn p (a.natAbs - b.natAbs) = a + b := by
  subst ha
  unfold sgn
  by_cases h1 : a < 0
  · have h2 : ¬ b < 0 := by simpa [h1] using hb
    simp [h1]; omega
  · have h2 : b < 0 := by simpa [h1] using hb
    simp [h1]; omega
theorem sgn_mul {a b : Int} : sgn (decide (a < 0) != decide (b < 0)) (a.natAbs * b.natAbs) = a * b := by
  unfold sgn
  have h := Int.natAbs_mul a b
  rw [← h]
  by_cases h1 : a < 0 <;> by_cases h2 : b < 0
  · have : 0 ≤ a * b := Int.mul_nonneg_of_nonpos_of_nonpos (by omega) (by omega)
    simp [h1, h2]; omega
  · have : a * b ≤ 0 := Int.mul_nonpos_of_nonpos_of_nonneg (by omega) (by omega)
    simp [h1, h2]; omega
  · have : a * b ≤ 0 := Int.mul_nonpos_of_nonneg_of_nonpos (by omega) (by omega)
    simp [h1, h2]; omega
  · have : 0 ≤ a * b := Int.mul_nonneg (by omega) (by omega)
    simp [h1, h2]; omega
end Gus
end
