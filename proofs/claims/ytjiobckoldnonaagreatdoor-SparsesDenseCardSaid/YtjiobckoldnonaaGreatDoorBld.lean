import Derived.Test.YtjiobckoldnonaaGreatDoorMap
/- Builders. -/
namespace Gus
open Go Go.RowKit Go.Proofs Go.ChangeMaps Go.MapKept
theorem gr_of_turned {w w' : World} {b : Nat} (h : w.mapTurned w' b) : w.grownBy w' (some b) := by
  obtain ⟨es, clock, es', clock', hb, rfl⟩ := h
  exact ⟨rfl, rfl, rfl, by simp [setBlock], fun i _ hi => heap_setBlock_other hb _ (fun e => hi (by rw [e]))⟩
section
variable {ops : Array Oper} {rest : List Oper} {o : Oper} {a : Act} {Q : Exit → Act → World → Prop} {w : World} {b n N M : Nat} {f : Nat → Nat → Rat}
theorem wpList_update_BM (hg : o.guard = none) (m x v : Operand) (hop : o.op = Op.mapUpdate 138 m x v) (i k : Nat) (q : Rat)
    (hm : a.eval m = .map (some b)) (hx : a.eval x = posV i k) (hv : a.eval v = fracV q) (h : BM w b n N M f) (hN : N ≤ 2048) (hM : M ≤ 2048) (hi : i < N) (hk : k < M) (hq : q ≠ 0) (hn : n < maxLen)
    (hK : ∀ w', BM w' b (n + 1) N M (setF f i k q) → w.grownBy w' (some b) → wpList Tryz.prog ops Q rest (a.put o.dst undef) w') : wpList Tryz.prog ops Q (o :: rest) a w := by
  refine wpList_plain hg fun K' hK' => ?_
  obtain ⟨w', hrun, r1, r2⟩ := h.update hN hM hi hk hq hn
  unfold Oper.wp
  simp [execOp, hop, hm, hx, hv, hrun, Result.andThen]
  exact hK' _ _ (hK w' r1 r2)
theorem wpList_drop_BM (hg : o.guard = none) (m x : Operand) (hop : o.op = Op.call { callee := Callee.builtin Builtin.delete, args := #[m, x], argTypes := #[138, 142] }) (i k : Nat)
    (hm : a.eval m = .map (some b)) (hx : a.eval x = posV i k) (h : BM w b n N M f) (hN : N ≤ 2048) (hM : M ≤ 2048) (hi : i < N) (hk : k < M)
    (hK : ∀ w', BM w' b n N M (setF f i k 0) → w.grownBy w' (some b) → wpList Tryz.prog ops Q rest (a.put o.dst (.tuple #[])) w') : wpList Tryz.prog ops Q (o :: rest) a w := by
  refine wpList_plain hg fun K' hK' => ?_
  obtain ⟨w', hrun, r1, r2⟩ := h.drop hN hM hi hk o.type
  unfold Oper.wp
  simp [execOp, hop, resolve, invoke, builtin, hm, hx, hrun, Result.andThen]
  exact hK' _ _ (hK w' r1 (gr_of_turned r2))
end
/-- block p is a Builder over the map in block b -/
def BB (w : World) (p b n N M : Nat) (f : Nat → Nat → Rat) : Prop := Bx w p 140 [.int .i64 N, .int .i64 M, .map (some b)] ∧ BM w b n N M f
set_option maxRecDepth 100000 in
theorem begun_any (N M : Nat) (w : World) :
    Calls Tryz.prog 62 #[.int .i64 N, .int .i64 M] w fun e w' => e = .returned (.pointer (some ⟨w.heap.size + 1, 0, none⟩)) ∧ BB w' (w.heap.size + 1) w.heap.size 0 N M (fun _ _ => 0) ∧ Below w.heap.size w w' := by
  have hmk := fun w : World => run_makeMap (P := Tryz.prog) 138 w
  go_enter Tryz.func62, Tryz.ntmps62
  go_wp2_with fail
  go_ret
  refine ⟨rfl, ⟨Bx.new_at _ _ _ (by simp), (BM.new w N M).alloc _⟩, by (refine In.bel ?_; (repeat (first | (refine In.setCell ?_ (by first | omega | (simp; done) | (simp; omega)) _) | (refine In.alloc ?_ _) | (refine In.drew ?_))); (first | exact In.self _ | (refine In.out h ?_ (by first | omega | (simp; done) | (simp; omega)); (repeat (first | (refine In.setCell ?_ (by first | omega | (simp; done) | (simp; omega)) _) | (refine In.alloc ?_ _) | (refine In.drew ?_))); exact In.self _)))⟩
set_option maxRecDepth 100000 in
set_option maxHeartbeats 1000000 in
theorem badd_out (w : World) (p b n N M : Nat) (f : Nat → Nat → Rat) (i k : Int) (q : Rat) (hB : BB w p b n N M f) (ho : ¬ (0 ≤ i ∧ i < N ∧ 0 ≤ k ∧ k < M)) :
    Calls Tryz.prog 15 #[.pointer (some ⟨p, 0, none⟩), .int .i64 i, .int .i64 k, fracV q] w fun e w' => e = .returned (.int .i64 1) ∧ Below w.heap.size w w' := by
  have c0 := hB.1.c0
  have c1 := hB.1.c1
  have hp := hB.1.lt
  have h1 := has_any i N
  have h2 := has_any k M
  clear hB
  by_cases hi : 0 ≤ i ∧ i < N
  · have hk : ¬ (0 ≤ k ∧ k < M) := fun h => ho ⟨hi.1, hi.2, h.1, h.2⟩
    rw [show (decide (0 ≤ i) && decide (i < (N : Int))) = true by simp [hi.1, hi.2]] at h1
    rw [show (decide (0 ≤ k) && decide (k < (M : Int))) = false by rw [← Bool.decide_and]; exact decide_eq_false hk] at h2
    clear ho hi hk
    go_enter Tryz.func15, Tryz.ntmps15
    go_wp2_with fail
    (((with_reducible refine (h1 _).mono ?_)); rintro e w' ⟨rfl, hb⟩; have h := (In.self _).call hb; (try simp only [World.size_alloc] at h); (try simp only [World.size_setCell] at h); clear hb; have hc := h.cell; have hf := h.frozen)
    go_wp2_with fail
    (((with_reducible refine (h2 _).mono ?_)); rintro e w' ⟨rfl, hb⟩; replace h := In.call (by first | exact h | exact h.drew | exact h.alloc _ | exact (h.alloc _).alloc _ | exact ((h.alloc _).alloc _).alloc _) hb; clear hb hc hf; have hc := h.cell; have hf := h.frozen)
    go_wp2_with fail
    go_ret
    exact ⟨rfl, by (refine In.bel ?_; (repeat (first | (refine In.setCell ?_ (by first | omega | (simp; done) | (simp; omega)) _) | (refine In.alloc ?_ _) | (refine In.drew ?_))); (first | exact In.self _ | (refine In.out h ?_ (by first | omega | (simp; done) | (simp; omega)); (repeat (first | (refine In.setCell ?_ (by first | omega | (simp; done) | (simp; omega)) _) | (refine In.alloc ?_ _) | (refine In.drew ?_))); exact In.self _)))⟩
  · rw [show (decide (0 ≤ i) && decide (i < (N : Int))) = false by rw [← Bool.decide_and]; exact decide_eq_false hi] at h1
    clear ho hi
    go_enter Tryz.func15, Tryz.ntmps15
    go_wp2_with fail
    (((with_reducible refine (h1 _).mono ?_)); rintro e w' ⟨rfl, hb⟩; have h := (In.self _).call hb; (try simp only [World.size_alloc] at h); (try simp only [World.size_setCell] at h); clear hb; have hc := h.cell; have hf := h.frozen)
    go_wp2_with fail
    go_ret
    exact ⟨rfl, by (refine In.bel ?_; (repeat (first | (refine In.setCell ?_ (by first | omega | (simp; done) | (simp; omega)) _) | (refine In.alloc ?_ _) | (refine In.drew ?_))); (first | exact In.self _ | (refine In.out h ?_ (by first | omega | (simp; done) | (simp; omega)); (repeat (first | (refine In.setCell ?_ (by first | omega | (simp; done) | (simp; omega)) _) | (refine In.alloc ?_ _) | (refine In.drew ?_))); exact In.self _)))⟩
theorem gr_after {w w1 w2 : World} {X b : Nat} (h : In X w w1) (hX : X = w.heap.size) (hg : w1.grownBy w2 (some b)) : w.grownBy w2 (some b) :=
  ⟨hg.os.trans h.bel.os, hg.tape.trans h.bel.tape, hg.output.trans h.bel.output, Nat.le_trans h.bel.size hg.size, fun j hj hne => (hg.block j (Nat.lt_of_lt_of_le hj h.bel.size) hne).trans (h.bel.block j (by omega))⟩
theorem BM.mono {w : World} {b n n' N M : Nat} {f : Nat → Nat → Rat} (h : BM w b n N M f) (hn : n ≤ n') : BM w b n' N M f := let ⟨D, h1, h2⟩ := h; ⟨D, h1.mono hn, h2⟩
set_option maxRecDepth 100000 in
set_option maxHeartbeats 2000000 in
theorem badd_in {s j : Nat} (w : World) (p b n N M : Nat) (f : Nat → Nat → Rat) (i k : Nat) (q : Rat) (hB : BB w p b n N M f) (hi : i < N) (hk : k < M) (hN : N ≤ 2048) (hM : M ≤ 2048) (hn : n < maxLen) (hpb : p ≠ b)
    (hs : SzK s (f i k)) (hj : SzK j q) (hsj : s + j + 1 < 17592186044416) :
    Calls Tryz.prog 15 #[.pointer (some ⟨p, 0, none⟩), .int .i64 i, .int .i64 k, fracV q] w fun e w' => e = .returned (.int .i64 0) ∧ BB w' p b (n + 1) N M (setF f i k (f i k + q)) ∧ w.grownBy w' (some b) := by
  have c0 := hB.1.c0
  have c1 := hB.1.c1
  have c2 := hB.1.c2
  have hp := hB.1.lt
  have hb := hB.2.lt
  have h1 := has_any i N
  have h2 := has_any k M
  rw [show (decide ((0 : Int) ≤ (i : Int)) && decide ((i : Int) < (N : Int))) = true by simp; omega] at h1
  rw [show (decide ((0 : Int) ≤ (k : Int)) && decide ((k : Int) < (M : Int))) = true by simp; omega] at h2
  have h3 := fadd_any (f i k) q hs hj hsj
  have h4 := fsign_any (f i k + q)
  have hlk : ∀ w1 : World, St w w1 → (Instr.lookup 138 (.map (some b)) (posV i k) false).run Tryz.prog w1 = .ok (fracV (f i k)) w1 := fun w1 hs => (hB.2.call hs).lookup hN hM hi hk
  have HLK := Lib.hid hlk
  obtain ⟨x, hx⟩ : ∃ x, x = f i k + q := ⟨_, rfl⟩
  rw [← hx] at h3 h4 ⊢
  obtain ⟨y, hy⟩ : ∃ y, y = f i k := ⟨_, rfl⟩
  rw [← hy] at h3 HLK
  have HX := Lib.hid hx
  have HB := Lib.hid hB
  clear hlk hx hy hB hs hj hsj
  go_enter Tryz.func15, Tryz.ntmps15
  go_wp2_with fail
  (((with_reducible refine (h1 _).mono ?_)); rintro e w' ⟨rfl, hb⟩; have h := (In.self _).call hb; (try simp only [World.size_alloc] at h); (try simp only [World.size_setCell] at h); clear hb; have hc := h.cell; have hf := h.frozen)
  go_wp2_with fail
  (((with_reducible refine (h2 _).mono ?_)); rintro e w' ⟨rfl, hb⟩; replace h := In.call (by first | exact h | exact h.drew | exact h.alloc _ | exact (h.alloc _).alloc _ | exact ((h.alloc _).alloc _).alloc _) hb; clear hb hc hf; have hc := h.cell; have hf := h.frozen)
  have bq := (Bx.new_at w #[.int .u64 (lo q.num.natAbs), .string (bg q.num.natAbs), .bool (decide (q.num < 0)), .int .u64 (lo (q.den - 1)), .string (bg (q.den - 1))] 56 rfl).below h.bel (Nat.lt_succ_self _)
  have hin := h.out ((In.self w).alloc _) (Nat.le_succ _)
  clear hc hf h h1 h2
  go_upto_region 6 with fail
  obtain ⟨X, hX⟩ : ∃ X, X = w.heap.size := ⟨_, rfl⟩
  obtain ⟨P, hP⟩ : ∃ P, P = w'.heap.size := ⟨_, rfl⟩
  rw [← hX] at bq hin hp hb ⊢
  rw [← hP]
  have hXP : X < P := by rw [hP]; exact bq.lt
  have bp0 := (HB.out.1.below hin.bel hp).alloc (.cells #[.int .i64 i, .int .i64 k] 142)
  have bm0 := (HB.out.2.below hin.bel hb).alloc (.cells #[.int .i64 i, .int .i64 k] 142)
  have bq0 := bq.alloc (.cells #[.int .i64 i, .int .i64 k] 142)
  have bk0 := Bx.new_at w' #[.int .i64 i, .int .i64 k] 142 hP
  have hin0 := hin.alloc (.cells #[.int .i64 i, .int .i64 k] 142)
  have HXX := Lib.hid hX
  have hlk := fun w1 (hs : St (w'.alloc (.cells #[.int .i64 i, .int .i64 k] 142)) w1) => HLK.out w1 (by rw [St, ← HXX.out]; exact hin0.bel.trans (Below.mono hs (by have := hin0.siz; exact this)))
  clear bq hin hX hP
  generalize w'.alloc (.cells #[.int .i64 i, .int .i64 k] 142) = W1 at *
  clear c0 c1 c2
  have c0 := bp0.c0
  have c1 := bp0.c1
  have c2 := bp0.c2
  have q0 := bq0.c0
  have q1 := bq0.c1
  have q2 := bq0.c2
  have q3 := bq0.c3
  have q4 := bq0.c4
  have k0 := bk0.c0
  have k1 := bk0.c1
  have l0 := bp0.lt
  have l1 := bq0.lt
  have l2 := bk0.lt
  have HL2 := Lib.hid hlk
  clear hlk
  refine wp_region_flow 9 (by kernel_rfl) (by kernel_rfl) (fun _ _ d _ _ h => by cases d <;> exact h) ?_; simp only [List.take_succ_cons, List.take_zero, List.drop_succ_cons, List.drop_zero]; simp only [putAll, Act.put, List.setIfInBounds_toArray, List.set]; (try simp only [Nat.reduceAdd]); (try simp only [Nat.zero_add]); (repeat (first | ((with_reducible refine flow_float (v := ?_) ?_ ?_ ?_); rotate_left 1; (focus (with_reducible rfl)); (focus (intro u w1 hw hd w2; (try simp only [depH] at hd); (try simp only [ext] at hd); (try simp only [extU] at hd); (try simp only [Nat.reduceAdd] at hd); (try simp only [Nat.reduceEqDiff] at hd); (try simp only [reduceIte] at hd); (try simp only [if_true] at hd); (try simp only [if_false] at hd); (try simp only [and_true] at hd); (try simp only [true_and] at hd); go_simp; exact rfl))) | ((with_reducible refine flow_pure0 (v := ?_) ?_ ?_ ?_ ?_); rotate_left 1; (focus (with_reducible rfl)); (focus rfl); (focus (intro u w1 hw hd; (try simp only [depH] at hd); (try simp only [ext] at hd); (try simp only [extU] at hd); (try simp only [Nat.reduceAdd] at hd); (try simp only [Nat.reduceEqDiff] at hd); (try simp only [reduceIte] at hd); (try simp only [if_true] at hd); (try simp only [if_false] at hd); (try simp only [and_true] at hd); (try simp only [true_and] at hd); have hc' := hw.cell; have hl2 := HL2.out w1 hw; go_simp; exact rfl))) | ((with_reducible refine flow_skipg (j := ?_) (b := ?_) ?_ ?_ ?_); rotate_left 2; (focus (with_reducible rfl)); (focus (intro u w1 hw hd; (try simp only [depH] at hd); (try simp only [ext] at hd); (try simp only [extU] at hd); (try simp only [Nat.reduceAdd] at hd); (try simp only [Nat.reduceEqDiff] at hd); (try simp only [reduceIte] at hd); (try simp only [if_true] at hd); (try simp only [if_false] at hd); (try simp only [and_true] at hd); (try simp only [true_and] at hd); simp [yielded, hd]; done))) | ((with_reducible refine flow_pureg (v := ?_) (j := ?_) (b := ?_) ?_ ?_ ?_ ?_); rotate_left 3; (focus (with_reducible rfl)); (focus (intro u w1 hw hd; (try simp only [depH] at hd); (try simp only [ext] at hd); (try simp only [extU] at hd); (try simp only [Nat.reduceAdd] at hd); (try simp only [Nat.reduceEqDiff] at hd); (try simp only [reduceIte] at hd); (try simp only [if_true] at hd); (try simp only [if_false] at hd); (try simp only [and_true] at hd); (try simp only [true_and] at hd); simp [yielded, hd]; done)); (focus (intro u w1 hw hd; (try simp only [depH] at hd); (try simp only [ext] at hd); (try simp only [extU] at hd); (try simp only [Nat.reduceAdd] at hd); (try simp only [Nat.reduceEqDiff] at hd); (try simp only [reduceIte] at hd); (try simp only [if_true] at hd); (try simp only [if_false] at hd); (try simp only [and_true] at hd); (try simp only [true_and] at hd); have hc' := hw.cell; have hl2 := HL2.out w1 hw; go_simp; exact rfl))) | ((with_reducible refine flow_alloc (t := ?_) (zs := ?_) ?_ ?_ ?_ ?_); rotate_left 2; (focus (with_reducible rfl)); (focus rfl); (focus (intro u w1; go_simp; exact rfl))) | ((with_reducible refine flow_pure0 (v := ?_) ?_ ?_ ?_ ?_); rotate_left 1; (focus (with_reducible rfl)); (focus rfl); (focus (intro u w1 hw hd; (try simp only [depH] at hd); (try simp only [ext] at hd); (try simp only [extU] at hd); (try simp only [Nat.reduceAdd] at hd); (try simp only [Nat.reduceEqDiff] at hd); (try simp only [reduceIte] at hd); (try simp only [if_true] at hd); (try simp only [if_false] at hd); (try simp only [and_true] at hd); (try simp only [true_and] at hd); have hc' := hw.cell; go_simp; go_at_call 66; ((with_reducible refine (h3 _).mono ?_)); rintro e w'' ⟨rfl, hb⟩; refine ⟨?_, hb⟩; exact rfl))) | ((with_reducible refine flow_pureg (v := ?_) (j := ?_) (b := ?_) ?_ ?_ ?_ ?_); rotate_left 3; (focus (with_reducible rfl)); (focus (intro u w1 hw hd; (try simp only [depH] at hd); (try simp only [ext] at hd); (try simp only [extU] at hd); (try simp only [Nat.reduceAdd] at hd); (try simp only [Nat.reduceEqDiff] at hd); (try simp only [reduceIte] at hd); (try simp only [if_true] at hd); (try simp only [if_false] at hd); (try simp only [and_true] at hd); (try simp only [true_and] at hd); simp [yielded, hd]; done)); (focus (intro u w1 hw hd; (try simp only [depH] at hd); (try simp only [ext] at hd); (try simp only [extU] at hd); (try simp only [Nat.reduceAdd] at hd); (try simp only [Nat.reduceEqDiff] at hd); (try simp only [reduceIte] at hd); (try simp only [if_true] at hd); (try simp only [if_false] at hd); (try simp only [and_true] at hd); (try simp only [true_and] at hd); have hc' := hw.cell; go_simp; go_at_call 66; ((with_reducible refine (h3 _).mono ?_)); rintro e w'' ⟨rfl, hb⟩; refine ⟨?_, hb⟩; exact rfl)))))
  (try clear hc hf h); intro u w' h ha hdi; replace h := h.ins; (try simp only [World.size_alloc] at h); (try dsimp only at ha); (repeat rw [World.size_alloc] at ha); (try simp only [allH] at ha); (try simp only [ext] at ha); (try simp only [extU] at ha); (try simp only [Nat.reduceAdd] at ha); (try simp only [Nat.reduceEqDiff] at ha); (try simp only [reduceIte] at ha); (try simp only [if_true] at ha); (try simp only [if_false] at ha); (try simp only [and_true] at ha); (try simp only [true_and] at ha); have hc := h.cell; have hf := h.frozen
  obtain ⟨ha, G, hu, hWG, bg1⟩ := ha
  (try obtain ha := ha); (try dsimp only);  simp only [ha, hu]; clear ha hdi hu
  have bp1 := bp0.below h.bel l0
  have bk1 := bk0.below h.bel l2
  have bm1 := bm0.below h.bel bm0.lt
  have nP : ¬ G = P := by omega
  have np : ¬ G = p := by omega
  have nb : ¬ G = b := by have := bm0.lt; omega
  have hXG : X ≤ G := by omega
  have hin1 := hin0.call h.bel
  have g0 := bg1.c0
  have g1 := bg1.c1
  have g2 := bg1.c2
  have g3 := bg1.c3
  have g4 := bg1.c4
  have f0 := bg1.frozen 0
  have f1 := bg1.frozen 1
  have f2 := bg1.frozen 2
  have f3 := bg1.frozen 3
  have f4 := bg1.frozen 4
  clear hc hf h hWG l0 l1 l2 k0 k1 q0 q1 q2 q3 q4 c0 c1 c2 bp0 bm0 bq0 bk0 hin0 HL2 HLK
  go_upto_region 7 with fail
  have bp := ((((bp1.other (a := ⟨G, 0, none⟩) np (.int .u64 (lo x.num.natAbs))).other (a := ⟨G, 1, none⟩) np (.string (bg x.num.natAbs))).other (a := ⟨G, 2, none⟩) np (.bool (decide (x.num < 0)))).other (a := ⟨G, 3, none⟩) np (.int .u64 (lo (x.den - 1)))).other (a := ⟨G, 4, none⟩) np (.string (bg (x.den - 1)))
  have bk := ((((bk1.other (a := ⟨G, 0, none⟩) nP (.int .u64 (lo x.num.natAbs))).other (a := ⟨G, 1, none⟩) nP (.string (bg x.num.natAbs))).other (a := ⟨G, 2, none⟩) nP (.bool (decide (x.num < 0)))).other (a := ⟨G, 3, none⟩) nP (.int .u64 (lo (x.den - 1)))).other (a := ⟨G, 4, none⟩) nP (.string (bg (x.den - 1)))
  have bm := ((((bm1.other (a := ⟨G, 0, none⟩) nb (.int .u64 (lo x.num.natAbs))).other (a := ⟨G, 1, none⟩) nb (.string (bg x.num.natAbs))).other (a := ⟨G, 2, none⟩) nb (.bool (decide (x.num < 0)))).other (a := ⟨G, 3, none⟩) nb (.int .u64 (lo (x.den - 1)))).other (a := ⟨G, 4, none⟩) nb (.string (bg (x.den - 1)))
  have bx : Bx _ G 56 [.int .u64 (lo x.num.natAbs), .string (bg x.num.natAbs), .bool (decide (x.num < 0)), .int .u64 (lo (x.den - 1)), .string (bg (x.den - 1))] :=
    ((((bg1.set 0 (.int .u64 (lo x.num.natAbs))).set 1 (.string (bg x.num.natAbs))).set 2 (.bool (decide (x.num < 0)))).set 3 (.int .u64 (lo (x.den - 1)))).set 4 (.string (bg (x.den - 1)))
  have hin := ((((hin1.setCell (p := ⟨G, 0, none⟩) hXG (.int .u64 (lo x.num.natAbs))).setCell (p := ⟨G, 1, none⟩) hXG (.string (bg x.num.natAbs))).setCell (p := ⟨G, 2, none⟩) hXG (.bool (decide (x.num < 0)))).setCell (p := ⟨G, 3, none⟩) hXG (.int .u64 (lo (x.den - 1)))).setCell (p := ⟨G, 4, none⟩) hXG (.string (bg (x.den - 1)))
  clear bp1 bk1 bm1 bg1 hin1 g0 g1 g2 g3 g4 f0 f1 f2 f3 f4
  generalize ((((w'.setCell ⟨G, 0, none⟩ (.int .u64 (lo x.num.natAbs))).setCell ⟨G, 1, none⟩ (.string (bg x.num.natAbs))).setCell ⟨G, 2, none⟩ (.bool (decide (x.num < 0)))).setCell ⟨G, 3, none⟩ (.int .u64 (lo (x.den - 1)))).setCell ⟨G, 4, none⟩ (.string (bg (x.den - 1))) = W2 at *
  have x0 := bx.c0
  have x1 := bx.c1
  have x2 := bx.c2
  have x3 := bx.c3
  have x4 := bx.c4
  by_cases hx0 : x = 0
  · have hz : isign x.num = 0 := by rw [hx0]; rfl
    rw [hz] at h4
    have HX0 := Lib.hid hx0
    clear hz hx0
    go_wp2_with fail
    ((with_reducible refine (h4 _).mono ?_))
    rintro e w' ⟨rfl, hb3⟩
    have bp1 := bp.call hb3
    have bk1 := bk.call hb3
    have bm1 := bm.call hb3
    have hin1 := hin.call hb3
    clear x0 x1 x2 x3 x4 bp bk bm bx hin hb3 h4
    have c2 := bp1.c2
    have k0 := bk1.c0
    have k1 := bk1.c1
    have l0 := bp1.lt
    have l1 := bk1.lt
    go_wp2_with fail
    refine wp_region_flow 5 (by kernel_rfl) (by kernel_rfl) (fun _ _ d _ _ h => by cases d <;> exact h) ?_; simp only [List.take_succ_cons, List.take_zero, List.drop_succ_cons, List.drop_zero]; simp only [putAll, Act.put, List.setIfInBounds_toArray, List.set]; (try simp only [Nat.reduceAdd]); (try simp only [Nat.zero_add]); (repeat (first | ((with_reducible refine flow_float (v := ?_) ?_ ?_ ?_); rotate_left 1; (focus (with_reducible rfl)); (focus (intro u w1 hw hd w2; (try simp only [depH] at hd); (try simp only [ext] at hd); (try simp only [extU] at hd); (try simp only [Nat.reduceAdd] at hd); (try simp only [Nat.reduceEqDiff] at hd); (try simp only [reduceIte] at hd); (try simp only [if_true] at hd); (try simp only [if_false] at hd); (try simp only [and_true] at hd); (try simp only [true_and] at hd); go_simp; exact rfl))) | ((with_reducible refine flow_pure0 (v := ?_) ?_ ?_ ?_ ?_); rotate_left 1; (focus (with_reducible rfl)); (focus rfl); (focus (intro u w1 hw hd; (try simp only [depH] at hd); (try simp only [ext] at hd); (try simp only [extU] at hd); (try simp only [Nat.reduceAdd] at hd); (try simp only [Nat.reduceEqDiff] at hd); (try simp only [reduceIte] at hd); (try simp only [if_true] at hd); (try simp only [if_false] at hd); (try simp only [and_true] at hd); (try simp only [true_and] at hd); have hc' := hw.cell; go_simp; exact rfl))) | ((with_reducible refine flow_skipg (j := ?_) (b := ?_) ?_ ?_ ?_); rotate_left 2; (focus (with_reducible rfl)); (focus (intro u w1 hw hd; (try simp only [depH] at hd); (try simp only [ext] at hd); (try simp only [extU] at hd); (try simp only [Nat.reduceAdd] at hd); (try simp only [Nat.reduceEqDiff] at hd); (try simp only [reduceIte] at hd); (try simp only [if_true] at hd); (try simp only [if_false] at hd); (try simp only [and_true] at hd); (try simp only [true_and] at hd); simp [yielded, hd]; done))) | ((with_reducible refine flow_pureg (v := ?_) (j := ?_) (b := ?_) ?_ ?_ ?_ ?_); rotate_left 3; (focus (with_reducible rfl)); (focus (intro u w1 hw hd; (try simp only [depH] at hd); (try simp only [ext] at hd); (try simp only [extU] at hd); (try simp only [Nat.reduceAdd] at hd); (try simp only [Nat.reduceEqDiff] at hd); (try simp only [reduceIte] at hd); (try simp only [if_true] at hd); (try simp only [if_false] at hd); (try simp only [and_true] at hd); (try simp only [true_and] at hd); simp [yielded, hd]; done)); (focus (intro u w1 hw hd; (try simp only [depH] at hd); (try simp only [ext] at hd); (try simp only [extU] at hd); (try simp only [Nat.reduceAdd] at hd); (try simp only [Nat.reduceEqDiff] at hd); (try simp only [reduceIte] at hd); (try simp only [if_true] at hd); (try simp only [if_false] at hd); (try simp only [and_true] at hd); (try simp only [true_and] at hd); have hc' := hw.cell; go_simp; exact rfl))) | ((with_reducible refine flow_alloc (t := ?_) (zs := ?_) ?_ ?_ ?_ ?_); rotate_left 2; (focus (with_reducible rfl)); (focus rfl); (focus (intro u w1; go_simp; exact rfl)))))
    (try clear hc hf h); intro u w' h ha hdi; replace h := h.ins; (try simp only [World.size_alloc] at h); (try dsimp only at ha); (repeat rw [World.size_alloc] at ha); (try simp only [allH] at ha); (try simp only [ext] at ha); (try simp only [extU] at ha); (try simp only [Nat.reduceAdd] at ha); (try simp only [Nat.reduceEqDiff] at ha); (try simp only [reduceIte] at ha); (try simp only [if_true] at ha); (try simp only [if_false] at ha); (try simp only [and_true] at ha); (try simp only [true_and] at ha); have hc := h.cell; have hf := h.frozen
    (try obtain ha := ha); (try dsimp only);  simp only [ha]; clear ha hdi 
    have bp2 := bp1.below h.bel l0
    have bm2 := bm1.below h.bel bm1.lt
    have hin2 := hin1.call h.bel
    refine wpList_drop_BM rfl _ _ rfl i k rfl rfl bm2 hN hM hi hk ?_
    intro w3 hbm hgr
    have bp3 := bp2.grown hgr (fun h => hpb (Option.some.inj h))
    have hgw := gr_after hin2 HXX.out hgr
    have hbb : BB w3 p b (n + 1) N M (setF f i k x) := ⟨bp3, by rw [HX0.out]; exact hbm.mono (Nat.le_succ _)⟩
    clear hc hf h c2 k0 k1 l0 l1 bp1 bk1 bm1 hin1 bp2 bm2 hin2 hbm hgr bp3
    go_frame
    go_wp2_with fail
    go_ret
    exact ⟨rfl, hbb, hgw⟩
  · have hz : (isign x.num == 0) = false := by
      have : x.num ≠ 0 := fun h => hx0 (Rat.num_eq_zero.1 h)
      have h0 : ¬ isign x.num = 0 := by unfold isign; split <;> (try split) <;> simp_all
      simpa using h0
    obtain ⟨z, hz1⟩ : ∃ z, z = isign x.num := ⟨_, rfl⟩
    rw [← hz1] at hz h4
    have HX0 := Lib.hid hx0
    clear hz1 hx0
    go_wp2_with fail
    ((with_reducible refine (h4 _).mono ?_))
    rintro e w' ⟨rfl, hb3⟩
    have bp1 := bp.call hb3
    have bk1 := bk.call hb3
    have bm1 := bm.call hb3
    have bx1 := bx.call hb3
    have hin1 := hin.call hb3
    clear x0 x1 x2 x3 x4 bp bk bm bx hin hb3 h4
    have c2 := bp1.c2
    have k0 := bk1.c0
    have k1 := bk1.c1
    have x0 := bx1.c0
    have x1 := bx1.c1
    have x2 := bx1.c2
    have x3 := bx1.c3
    have x4 := bx1.c4
    have l0 := bp1.lt
    have l1 := bk1.lt
    have l2 := bx1.lt
    go_wp2_with fail
    refine wp_region_flow 6 (by kernel_rfl) (by kernel_rfl) (fun _ _ d _ _ h => by cases d <;> exact h) ?_; simp only [List.take_succ_cons, List.take_zero, List.drop_succ_cons, List.drop_zero]; simp only [putAll, Act.put, List.setIfInBounds_toArray, List.set]; (try simp only [Nat.reduceAdd]); (try simp only [Nat.zero_add]); (repeat (first | ((with_reducible refine flow_float (v := ?_) ?_ ?_ ?_); rotate_left 1; (focus (with_reducible rfl)); (focus (intro u w1 hw hd w2; (try simp only [depH] at hd); (try simp only [ext] at hd); (try simp only [extU] at hd); (try simp only [Nat.reduceAdd] at hd); (try simp only [Nat.reduceEqDiff] at hd); (try simp only [reduceIte] at hd); (try simp only [if_true] at hd); (try simp only [if_false] at hd); (try simp only [and_true] at hd); (try simp only [true_and] at hd); go_simp; exact rfl))) | ((with_reducible refine flow_pure0 (v := ?_) ?_ ?_ ?_ ?_); rotate_left 1; (focus (with_reducible rfl)); (focus rfl); (focus (intro u w1 hw hd; (try simp only [depH] at hd); (try simp only [ext] at hd); (try simp only [extU] at hd); (try simp only [Nat.reduceAdd] at hd); (try simp only [Nat.reduceEqDiff] at hd); (try simp only [reduceIte] at hd); (try simp only [if_true] at hd); (try simp only [if_false] at hd); (try simp only [and_true] at hd); (try simp only [true_and] at hd); have hc' := hw.cell; go_simp; exact rfl))) | ((with_reducible refine flow_skipg (j := ?_) (b := ?_) ?_ ?_ ?_); rotate_left 2; (focus (with_reducible rfl)); (focus (intro u w1 hw hd; (try simp only [depH] at hd); (try simp only [ext] at hd); (try simp only [extU] at hd); (try simp only [Nat.reduceAdd] at hd); (try simp only [Nat.reduceEqDiff] at hd); (try simp only [reduceIte] at hd); (try simp only [if_true] at hd); (try simp only [if_false] at hd); (try simp only [and_true] at hd); (try simp only [true_and] at hd); simp [yielded, hd]; done))) | ((with_reducible refine flow_pureg (v := ?_) (j := ?_) (b := ?_) ?_ ?_ ?_ ?_); rotate_left 3; (focus (with_reducible rfl)); (focus (intro u w1 hw hd; (try simp only [depH] at hd); (try simp only [ext] at hd); (try simp only [extU] at hd); (try simp only [Nat.reduceAdd] at hd); (try simp only [Nat.reduceEqDiff] at hd); (try simp only [reduceIte] at hd); (try simp only [if_true] at hd); (try simp only [if_false] at hd); (try simp only [and_true] at hd); (try simp only [true_and] at hd); simp [yielded, hd]; done)); (focus (intro u w1 hw hd; (try simp only [depH] at hd); (try simp only [ext] at hd); (try simp only [extU] at hd); (try simp only [Nat.reduceAdd] at hd); (try simp only [Nat.reduceEqDiff] at hd); (try simp only [reduceIte] at hd); (try simp only [if_true] at hd); (try simp only [if_false] at hd); (try simp only [and_true] at hd); (try simp only [true_and] at hd); have hc' := hw.cell; go_simp; exact rfl))) | ((with_reducible refine flow_alloc (t := ?_) (zs := ?_) ?_ ?_ ?_ ?_); rotate_left 2; (focus (with_reducible rfl)); (focus rfl); (focus (intro u w1; go_simp; exact rfl)))))
    (try clear hc hf h); intro u w' h ha hdi; replace h := h.ins; (try simp only [World.size_alloc] at h); (try dsimp only at ha); (repeat rw [World.size_alloc] at ha); (try simp only [allH] at ha); (try simp only [ext] at ha); (try simp only [extU] at ha); (try simp only [Nat.reduceAdd] at ha); (try simp only [Nat.reduceEqDiff] at ha); (try simp only [reduceIte] at ha); (try simp only [if_true] at ha); (try simp only [if_false] at ha); (try simp only [and_true] at ha); (try simp only [true_and] at ha); have hc := h.cell; have hf := h.frozen
    (try obtain ha := ha); (try dsimp only);  simp only [ha]; clear ha hdi 
    have bp2 := bp1.below h.bel l0
    have bm2 := bm1.below h.bel bm1.lt
    have hin2 := hin1.call h.bel
    refine wpList_update_BM rfl _ _ _ rfl i k x rfl rfl rfl bm2 hN hM hi hk HX0.out hn ?_
    intro w3 hbm hgr
    have bp3 := bp2.grown hgr (fun h => hpb (Option.some.inj h))
    have hgw := gr_after hin2 HXX.out hgr
    have hbb : BB w3 p b (n + 1) N M (setF f i k x) := ⟨bp3, hbm⟩
    clear hc hf h c2 k0 k1 l0 l1 l2 x0 x1 x2 x3 x4 bp1 bk1 bm1 bx1 hin1 bp2 bm2 hin2 hbm hgr bp3
    go_frame
    go_wp2_with fail
    go_ret
    exact ⟨rfl, hbb, hgw⟩
end Gus
