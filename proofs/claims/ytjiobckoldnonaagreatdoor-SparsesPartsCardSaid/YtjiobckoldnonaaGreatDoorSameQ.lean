/- Proved here: parts of the proof: Same SameB Cnt Of One. Conditions: those that each theorem states. -/
import Derived.Test.YtjiobckoldnonaaGreatDoorShelfVQ
section
/- Equality of fractions, entries, rows, matrices. -/
namespace Gus
open Go Go.RowKit Go.Proofs
/-- the parts by which a fraction is told -/
theorem frac_iff (p q : Rat) : (lo p.num.natAbs = lo q.num.natAbs ∧ (bg p.num.natAbs).toList = (bg q.num.natAbs).toList ∧ decide (p.num < 0) = decide (q.num < 0) ∧ lo (p.den - 1) = lo (q.den - 1) ∧ (bg (p.den - 1)).toList = (bg (q.den - 1)).toList) ↔ p = q := by
  constructor
  · rintro ⟨h1, h2, h3, h4, h5⟩
    have hn := (nat_eq_iff' _ _).1 ⟨h1, h2⟩
    have hd := (nat_eq_iff' _ _).1 ⟨h4, h5⟩
    rw [decide_eq_decide] at h3
    have := p.den_pos; have := q.den_pos
    refine Rat.ext ?_ (by omega)
    by_cases hp : p.num < 0
    · have := h3.1 hp; omega
    · have : ¬ q.num < 0 := fun h => hp (h3.2 h)
      omega
  · rintro rfl; exact ⟨rfl, rfl, rfl, rfl, rfl⟩
set_option maxHeartbeats 2000000 in
theorem fracEq_run (p q : Rat) (w : World) : (binOp .eql 56 (fracV p) (fracV q)).run Tryz.prog w = .ok (.bool (decide (p = q))) w := by
  have h := frac_iff p q
  simp only [fracV]
  generalize lo p.num.natAbs = a1 at *
  generalize lo q.num.natAbs = b1 at *
  generalize bg p.num.natAbs = a2 at *
  generalize bg q.num.natAbs = b2 at *
  generalize decide (p.num < 0) = a3 at *
  generalize decide (q.num < 0) = b3 at *
  generalize lo (p.den - 1) = a4 at *
  generalize lo (q.den - 1) = b4 at *
  generalize bg (p.den - 1) = a5 at *
  generalize bg (q.den - 1) = b5 at *
  simp [go_sem]
  by_cases h1 : a1 = b1 <;> by_cases h2 : a2.toList = b2.toList <;> by_cases h3 : a3 = b3 <;> by_cases h4 : a4 = b4 <;> by_cases h5 : a5.toList = b5.toList <;> simp [h1, h2, h3, h4, h5] at h ⊢ <;> simp [h]
set_option maxHeartbeats 2000000 in
theorem entNeq_run (x y : EntI) (w : World) : (binOp .neq 111 (.agg (ecsI x).toArray) (.agg (ecsI y).toArray)).run Tryz.prog w = .ok (.bool (!decide (x = y))) w := by
  obtain ⟨i, p⟩ := x
  obtain ⟨k, q⟩ := y
  have h := frac_iff p q
  simp only [ecsI, fcs, Prod.mk.injEq]
  generalize lo p.num.natAbs = a1 at *
  generalize lo q.num.natAbs = b1 at *
  generalize bg p.num.natAbs = a2 at *
  generalize bg q.num.natAbs = b2 at *
  generalize decide (p.num < 0) = a3 at *
  generalize decide (q.num < 0) = b3 at *
  generalize lo (p.den - 1) = a4 at *
  generalize lo (q.den - 1) = b4 at *
  generalize bg (p.den - 1) = a5 at *
  generalize bg (q.den - 1) = b5 at *
  simp [go_sem]
  by_cases h0 : i = k <;> by_cases h1 : a1 = b1 <;> by_cases h2 : a2.toList = b2.toList <;> by_cases h3 : a3 = b3 <;> by_cases h4 : a4 = b4 <;> by_cases h5 : a5.toList = b5.toList <;> simp [h0, h1, h2, h3, h4, h5] at h ⊢ <;> (try simp [h])
set_option maxRecDepth 100000 in
set_option maxHeartbeats 2000000 in
theorem equalE_any (w : World) (v1 v2 : Value) (es1 es2 : List EntI) (h1 : RowG w v1 es1) (h2 : RowG w v2 es2) (hl : es1.length ≤ 4096) :
    Calls Tryz.prog 81 #[v1, v2] w fun e w' => e = .returned (.bool (decide (es1 = es2))) ∧ Below w.heap.size w w' := by
  have H1 := Lib.hid h1
  have H2 := Lib.hid h2
  obtain ⟨a1, c1, rfl, _⟩ := h1
  obtain ⟨a2, c2, rfl, _⟩ := h2
  obtain ⟨L, hL⟩ : ∃ L, L = es1.length := ⟨_, rfl⟩
  obtain ⟨M, hM⟩ : ∃ M, M = es2.length := ⟨_, rfl⟩
  rw [← hL] at hl ⊢
  rw [← hM]
  by_cases hLM : L = M
  · have hne : ((L : Int) != M) = false := by simp [hLM]
    obtain ⟨r, hr⟩ : ∃ r, r = decide (es1 = es2) := ⟨_, rfl⟩
    rw [← hr]
    have HR : Hid (r = decide (es1.drop 0 = es2.drop 0)) := Lib.hid hr
    have HL := Lib.hid hL
    have HM := Lib.hid hM
    have HLM := Lib.hid hLM
    clear hL hM hLM hr
    go_enter Tryz.func81, Tryz.ntmps81
    go_wp2_with fail
    go_loopw [13] (fun v13 wr => ∃ j : Nat, j ≤ L ∧ v13 = .int .i64 j ∧ Below w.heap.size w wr ∧ Hid (r = decide (es1.drop j = es2.drop j))) (fun v13 _ => L - (RowKit.intOf v13).toNat)
    case atStart => exact ⟨0, Nat.zero_le _, rfl, Below.refl _ _, HR⟩
    case round =>
      clear HR
      obtain ⟨j, hj, rfl, hbel, HR⟩ := hrel
      by_cases hjL : j < L
      · have hd1 := drop_getD es1 (0, 0) (show j < es1.length by rw [← HL.out]; exact hjL)
        have hd2 := drop_getD es2 (0, 0) (show j < es2.length by rw [← HM.out, ← HLM.out]; exact hjL)
        obtain ⟨b1, o1, k1, A1, A2, A3, A4, A5, hv1, hb1, hf1, _, x0, x1, x2, x3, x4, x5⟩ := (H1.out.call hbel).at (i := j) (by rw [← HL.out]; exact hjL)
        obtain ⟨b2, o2, k2, B1, B2, B3, B4, B5, hv2, hb2, hf2, _, y0, y1, y2, y3, y4, y5⟩ := (H2.out.call hbel).at (i := j) (by rw [← HM.out, ← HLM.out]; exact hjL)
        simp only [Value.slice.injEq] at hv1 hv2
        obtain ⟨rfl, _, hk1⟩ := hv1
        obtain ⟨rfl, _, hk2⟩ := hv2
        subst hk1 hk2
        obtain ⟨e1, he1⟩ : ∃ e, e = es1.getD j (0, 0) := ⟨_, rfl⟩
        obtain ⟨e2, he2⟩ : ∃ e, e = es2.getD j (0, 0) := ⟨_, rfl⟩
        have hneq := fun W => entNeq_run e1 e2 W
        have hr := HR.out
        rw [hd1, hd2, ← he1, ← he2] at hr
        unfold ecsI at hneq
        rw [← he1] at hf1 x0
        rw [← he2] at hf2 y0
        rw [hf1, hf2] at hneq
        obtain ⟨z1, hz1⟩ : ∃ z, z = e1.1 := ⟨_, rfl⟩
        obtain ⟨z2, hz2⟩ : ∃ z, z = e2.1 := ⟨_, rfl⟩
        rw [← hz1] at hneq x0
        rw [← hz2] at hneq y0
        have hjI : (j : Int) < L := by omega
        have hjM : (j : Int) < M := by have := HLM.out; omega
        have hj0 : (0 : Int) ≤ j := by omega
        have hjw : IntKind.i64.wrap ((j : Int) + 1) = ((j + 1 : Nat) : Int) := IntWalk.i64_in _ (by omega)
        clear hd1 hd2 HR
        by_cases heq : e1 = e2
        · rw [show (!decide (e1 = e2)) = false by simp [heq]] at hneq
          have hr2 : r = decide (es1.drop (j + 1) = es2.drop (j + 1)) := by rw [hr, heq]; simp
          have HR2 := Lib.hid hr2
          clear hr2 hr heq he1 he2 hz1 hz2 hf1 hf2
          go_upto_region 6 with fail
          have h := In.self wr
          have hc := h.cell
          refine wp_region_flow 8 (by kernel_rfl) (by kernel_rfl) (fun _ _ d _ _ h => by cases d <;> exact h) ?_; simp only [List.take_succ_cons, List.take_zero, List.drop_succ_cons, List.drop_zero]; simp only [putAll, Act.put, List.setIfInBounds_toArray, List.set]; (try simp only [Nat.reduceAdd]); (try simp only [Nat.zero_add]); (repeat (first | ((with_reducible refine flow_float (v := ?_) ?_ ?_ ?_); rotate_left 1; (focus (with_reducible rfl)); (focus (intro u w1 hw hd w2; (try simp only [depH] at hd); (try simp only [ext] at hd); (try simp only [Nat.reduceAdd] at hd); (try simp only [Nat.reduceEqDiff] at hd); (try simp only [reduceIte] at hd); (try simp only [if_true] at hd); (try simp only [if_false] at hd); (try simp only [and_true] at hd); (try simp only [true_and] at hd); go_simp; exact rfl))) | ((with_reducible refine flow_pure0 (v := ?_) ?_ ?_ ?_ ?_); rotate_left 1; (focus (with_reducible rfl)); (focus rfl); (focus (intro u w1 hw hd; (try simp only [depH] at hd); (try simp only [ext] at hd); (try simp only [Nat.reduceAdd] at hd); (try simp only [Nat.reduceEqDiff] at hd); (try simp only [reduceIte] at hd); (try simp only [if_true] at hd); (try simp only [if_false] at hd); (try simp only [and_true] at hd); (try simp only [true_and] at hd); have hc' := hw.cell; go_simp; exact rfl))) | ((with_reducible refine flow_skipg (j := ?_) (b := ?_) ?_ ?_ ?_); rotate_left 2; (focus (with_reducible rfl)); (focus (intro u w1 hw hd; (try simp only [depH] at hd); (try simp only [ext] at hd); (try simp only [Nat.reduceAdd] at hd); (try simp only [Nat.reduceEqDiff] at hd); (try simp only [reduceIte] at hd); (try simp only [if_true] at hd); (try simp only [if_false] at hd); (try simp only [and_true] at hd); (try simp only [true_and] at hd); simp [yielded, hd]; done))) | ((with_reducible refine flow_pureg (v := ?_) (j := ?_) (b := ?_) ?_ ?_ ?_ ?_); rotate_left 3; (focus (with_reducible rfl)); (focus (intro u w1 hw hd; (try simp only [depH] at hd); (try simp only [ext] at hd); (try simp only [Nat.reduceAdd] at hd); (try simp only [Nat.reduceEqDiff] at hd); (try simp only [reduceIte] at hd); (try simp only [if_true] at hd); (try simp only [if_false] at hd); (try simp only [and_true] at hd); (try simp only [true_and] at hd); simp [yielded, hd]; done)); (focus (intro u w1 hw hd; (try simp only [depH] at hd); (try simp only [ext] at hd); (try simp only [Nat.reduceAdd] at hd); (try simp only [Nat.reduceEqDiff] at hd); (try simp only [reduceIte] at hd); (try simp only [if_true] at hd); (try simp only [if_false] at hd); (try simp only [and_true] at hd); (try simp only [true_and] at hd); have hc' := hw.cell; go_simp; exact rfl))) | ((with_reducible refine flow_alloc (t := ?_) (zs := ?_) ?_ ?_ ?_ ?_); rotate_left 2; (focus (with_reducible rfl)); (focus rfl); (focus (intro u w1; go_simp; exact rfl)))))
          (try clear hc hf h); intro u w' h ha hdi; replace h := h.ins; (try simp only [World.size_alloc] at h); (try dsimp only at ha); (repeat rw [World.size_alloc] at ha); (try simp only [allH] at ha); (try simp only [ext] at ha); (try simp only [Nat.reduceAdd] at ha); (try simp only [Nat.reduceEqDiff] at ha); (try simp only [reduceIte] at ha); (try simp only [if_true] at ha); (try simp only [if_false] at ha); (try simp only [and_true] at ha); (try simp only [true_and] at ha); have hc := h.cell; have hf := h.frozen
          (try obtain ha := ha); (try dsimp only);  simp only [ha]; clear ha hdi 
          have hbel2 := hbel.trans (h.bel.mono hbel.size)
          clear hc hf h
          go_wp2_with fail
          exact ⟨⟨j + 1, by omega, by go_num, hbel2, HR2⟩, by simp [RowKit.intOf]; omega⟩
        · rw [show (!decide (e1 = e2)) = true by simp [heq]] at hneq
          have hr2 : r = false := by rw [hr]; simp [heq]
          subst hr2
          clear hr heq he1 he2 hz1 hz2 hf1 hf2
          go_upto_region 6 with fail
          have h := In.self wr
          have hc := h.cell
          refine wp_region_flow 8 (by kernel_rfl) (by kernel_rfl) (fun _ _ d _ _ h => by cases d <;> exact h) ?_; simp only [List.take_succ_cons, List.take_zero, List.drop_succ_cons, List.drop_zero]; simp only [putAll, Act.put, List.setIfInBounds_toArray, List.set]; (try simp only [Nat.reduceAdd]); (try simp only [Nat.zero_add]); (repeat (first | ((with_reducible refine flow_float (v := ?_) ?_ ?_ ?_); rotate_left 1; (focus (with_reducible rfl)); (focus (intro u w1 hw hd w2; (try simp only [depH] at hd); (try simp only [ext] at hd); (try simp only [Nat.reduceAdd] at hd); (try simp only [Nat.reduceEqDiff] at hd); (try simp only [reduceIte] at hd); (try simp only [if_true] at hd); (try simp only [if_false] at hd); (try simp only [and_true] at hd); (try simp only [true_and] at hd); go_simp; exact rfl))) | ((with_reducible refine flow_pure0 (v := ?_) ?_ ?_ ?_ ?_); rotate_left 1; (focus (with_reducible rfl)); (focus rfl); (focus (intro u w1 hw hd; (try simp only [depH] at hd); (try simp only [ext] at hd); (try simp only [Nat.reduceAdd] at hd); (try simp only [Nat.reduceEqDiff] at hd); (try simp only [reduceIte] at hd); (try simp only [if_true] at hd); (try simp only [if_false] at hd); (try simp only [and_true] at hd); (try simp only [true_and] at hd); have hc' := hw.cell; go_simp; exact rfl))) | ((with_reducible refine flow_skipg (j := ?_) (b := ?_) ?_ ?_ ?_); rotate_left 2; (focus (with_reducible rfl)); (focus (intro u w1 hw hd; (try simp only [depH] at hd); (try simp only [ext] at hd); (try simp only [Nat.reduceAdd] at hd); (try simp only [Nat.reduceEqDiff] at hd); (try simp only [reduceIte] at hd); (try simp only [if_true] at hd); (try simp only [if_false] at hd); (try simp only [and_true] at hd); (try simp only [true_and] at hd); simp [yielded, hd]; done))) | ((with_reducible refine flow_pureg (v := ?_) (j := ?_) (b := ?_) ?_ ?_ ?_ ?_); rotate_left 3; (focus (with_reducible rfl)); (focus (intro u w1 hw hd; (try simp only [depH] at hd); (try simp only [ext] at hd); (try simp only [Nat.reduceAdd] at hd); (try simp only [Nat.reduceEqDiff] at hd); (try simp only [reduceIte] at hd); (try simp only [if_true] at hd); (try simp only [if_false] at hd); (try simp only [and_true] at hd); (try simp only [true_and] at hd); simp [yielded, hd]; done)); (focus (intro u w1 hw hd; (try simp only [depH] at hd); (try simp only [ext] at hd); (try simp only [Nat.reduceAdd] at hd); (try simp only [Nat.reduceEqDiff] at hd); (try simp only [reduceIte] at hd); (try simp only [if_true] at hd); (try simp only [if_false] at hd); (try simp only [and_true] at hd); (try simp only [true_and] at hd); have hc' := hw.cell; go_simp; exact rfl))) | ((with_reducible refine flow_alloc (t := ?_) (zs := ?_) ?_ ?_ ?_ ?_); rotate_left 2; (focus (with_reducible rfl)); (focus rfl); (focus (intro u w1; go_simp; exact rfl)))))
          (try clear hc hf h); intro u w' h ha hdi; replace h := h.ins; (try simp only [World.size_alloc] at h); (try dsimp only at ha); (repeat rw [World.size_alloc] at ha); (try simp only [allH] at ha); (try simp only [ext] at ha); (try simp only [Nat.reduceAdd] at ha); (try simp only [Nat.reduceEqDiff] at ha); (try simp only [reduceIte] at ha); (try simp only [if_true] at ha); (try simp only [if_false] at ha); (try simp only [and_true] at ha); (try simp only [true_and] at ha); have hc := h.cell; have hf := h.frozen
          (try obtain ha := ha); (try dsimp only);  simp only [ha]; clear ha hdi 
          have hbel2 := hbel.trans (h.bel.mono hbel.size)
          clear hc hf h
          go_wp2_with fail
          go_ret
          exact ⟨rfl, hbel2⟩
      · have hr := HR.out
        rw [List.drop_eq_nil_of_le (by rw [← HL.out]; omega), List.drop_eq_nil_of_le (by rw [← HM.out, ← HLM.out]; omega)] at hr
        have hr2 : r = true := by rw [hr]; rfl
        subst hr2
        have hjI : ¬ (j : Int) < L := by omega
        clear hr HR
        go_wp2_with fail
        go_ret
        exact ⟨rfl, hbel⟩
  · have hne : ((L : Int) != M) = true := by
      have : ¬ (L : Int) = M := by omega
      simpa using this
    rw [show decide (es1 = es2) = false from decide_eq_false fun e => hLM (by rw [hL, hM, e])]
    clear hL hM hLM
    go_enter Tryz.func81, Tryz.ntmps81
    go_wp2_with fail
    go_ret
    exact ⟨rfl, Below.refl _ _⟩
end Gus
end
section
/- sparses.Same, sparses.Symmetric. -/
namespace Gus
open Go Go.RowKit Go.Proofs
def RwG (w : World) (a : Option Addr) (rows : List (List EntI)) : Prop := ∀ i, i < rows.length → ∃ b off x, a = some ⟨b, off, none⟩ ∧ b < w.heap.size ∧ w.cell? ⟨b, off + i, none⟩ = some x ∧ RowG w x (rows.getD i [])
theorem same1_any (w : World) (v1 v2 : Value) (es1 es2 : List EntI) (h1 : RowG w v1 es1) (h2 : RowG w v2 es2) (hl : es1.length ≤ 4096) :
    Calls Tryz.prog 80 #[v1, v2] w fun e w' => e = .returned (.bool (decide (es1 = es2))) ∧ Below w.heap.size w w' := by
  have h := equalE_any w v1 v2 es1 es2 h1 h2 hl
  obtain ⟨r, hr⟩ : ∃ r, r = decide (es1 = es2) := ⟨_, rfl⟩
  rw [← hr] at h ⊢
  clear hr h1 h2
  go_enter Tryz.func80, Tryz.ntmps80
  go_wp2_with fail
  ((with_reducible refine h.mono ?_))
  rintro e w' ⟨rfl, hb⟩
  clear h
  go_wp2_with fail
  go_ret
  exact ⟨rfl, hb⟩
set_option maxRecDepth 100000 in
set_option maxHeartbeats 2000000 in
theorem equalF_any (w : World) (a1 a2 : Option Addr) (c1 c2 : Nat) (rows1 rows2 : List (List EntI)) (h1 : RwG w a1 rows1) (h2 : RwG w a2 rows2) (hr : rows1.length ≤ 4096) (hl : ∀ i, (rows1.getD i []).length ≤ 4096) :
    Calls Tryz.prog 79 #[.slice a1 rows1.length c1, .slice a2 rows2.length c2, .func (.func 80) #[] #[]] w fun e w' => e = .returned (.bool (decide (rows1 = rows2))) ∧ Below w.heap.size w w' := by
  have eg : ∀ args w, (callFunc 80 args).run Tryz.prog w = .ok (.enter 80 args) w := enters_of Tryz.func80 (by kernel_rfl) rfl
  obtain ⟨L, hL⟩ : ∃ L, L = rows1.length := ⟨_, rfl⟩
  obtain ⟨M, hM⟩ : ∃ M, M = rows2.length := ⟨_, rfl⟩
  unfold RwG at h1 h2
  rw [← hL] at hr h1 ⊢
  rw [← hM] at h2 ⊢
  by_cases hLM : L = M
  · have hne : ((L : Int) != M) = false := by simp [hLM]
    obtain ⟨r, hrr⟩ : ∃ r, r = decide (rows1 = rows2) := ⟨_, rfl⟩
    rw [← hrr]
    have HR : Hid (r = decide (rows1.drop 0 = rows2.drop 0)) := Lib.hid hrr
    have H1 := Lib.hid h1
    have H2 := Lib.hid h2
    have HL := Lib.hid hL
    have HM := Lib.hid hM
    have HLM := Lib.hid hLM
    have HLL := Lib.hid hl
    clear hL hM hLM hrr h1 h2 hl
    go_enter Tryz.func79, Tryz.ntmps79
    go_wp2_with fail
    go_loopw [17] (fun v17 wr => ∃ j : Nat, j ≤ L ∧ v17 = .int .i64 j ∧ Below w.heap.size w wr ∧ Hid (r = decide (rows1.drop j = rows2.drop j))) (fun v17 _ => L - (RowKit.intOf v17).toNat)
    case atStart => exact ⟨0, Nat.zero_le _, rfl, Below.refl _ _, HR⟩
    case round =>
      clear HR
      obtain ⟨j, hj, rfl, hbel, HR⟩ := hrel
      by_cases hjL : j < L
      · have hd1 := drop_getD rows1 [] (show j < rows1.length by rw [← HL.out]; exact hjL)
        have hd2 := drop_getD rows2 [] (show j < rows2.length by rw [← HM.out, ← HLM.out]; exact hjL)
        obtain ⟨b1, o1, x1, rfl, hb1, hc1, hx1⟩ := H1.out j hjL
        obtain ⟨b2, o2, x2, rfl, hb2, hc2, hx2⟩ := H2.out j (by rw [← HLM.out]; exact hjL)
        rw [← hbel.cell (p := ⟨b1, o1 + j, none⟩) hb1] at hc1
        rw [← hbel.cell (p := ⟨b2, o2 + j, none⟩) hb2] at hc2
        have hbw1 : b1 < wr.heap.size := Nat.lt_of_lt_of_le hb1 hbel.size
        have hbw2 : b2 < wr.heap.size := Nat.lt_of_lt_of_le hb2 hbel.size
        have hs := same1_any wr x1 x2 _ _ (hx1.call hbel) (hx2.call hbel) (HLL.out j)
        have hrr := HR.out
        rw [hd1, hd2] at hrr
        obtain ⟨e1, he1⟩ : ∃ e, e = rows1.getD j [] := ⟨_, rfl⟩
        obtain ⟨e2, he2⟩ : ∃ e, e = rows2.getD j [] := ⟨_, rfl⟩
        rw [← he1, ← he2] at hrr hs
        obtain ⟨xa1, xn1, xk1, hxs1⟩ : ∃ a n k, x1 = .slice a n k := by obtain ⟨_, _, h, _⟩ := hx1; exact ⟨_, _, _, h⟩
        obtain ⟨xa2, xn2, xk2, hxs2⟩ : ∃ a n k, x2 = .slice a n k := by obtain ⟨_, _, h, _⟩ := hx2; exact ⟨_, _, _, h⟩
        subst hxs1 hxs2
        have hjI : (j : Int) < L := by omega
        have hjM : (j : Int) < M := by have := HLM.out; omega
        have hj0 : (0 : Int) ≤ j := by omega
        have hjw : IntKind.i64.wrap ((j : Int) + 1) = ((j + 1 : Nat) : Int) := IntWalk.i64_in _ (by omega)
        clear hd1 hd2 HR hb1 hb2 hx1 hx2
        by_cases heq : e1 = e2
        · rw [decide_eq_true heq] at hs
          have hr2 : r = decide (rows1.drop (j + 1) = rows2.drop (j + 1)) := by rw [hrr, heq]; simp
          have HR2 := Lib.hid hr2
          clear hr2 hrr heq he1 he2
          go_wp2_with fail
          ((with_reducible refine hs.mono ?_))
          rintro e w2 ⟨rfl, hb⟩
          have hbel2 := hbel.trans (hb.mono hbel.size)
          clear hb hs hc1 hc2 hbw1 hbw2
          go_wp2_with fail
          exact ⟨⟨j + 1, by omega, by go_num, hbel2, HR2⟩, by simp [RowKit.intOf]; omega⟩
        · rw [decide_eq_false heq] at hs
          have hr2 : r = false := by rw [hrr]; simp [heq]
          subst hr2
          clear hrr heq he1 he2
          go_wp2_with fail
          ((with_reducible refine hs.mono ?_))
          rintro e w2 ⟨rfl, hb⟩
          have hbel2 := hbel.trans (hb.mono hbel.size)
          clear hb hs hc1 hc2 hbw1 hbw2
          go_wp2_with fail
          go_ret
          exact ⟨rfl, hbel2⟩
      · have hrr := HR.out
        rw [List.drop_eq_nil_of_le (by rw [← HL.out]; omega), List.drop_eq_nil_of_le (by rw [← HM.out, ← HLM.out]; omega)] at hrr
        have hr2 : r = true := by rw [hrr]; rfl
        subst hr2
        have hjI : ¬ (j : Int) < L := by omega
        clear hrr HR
        go_wp2_with fail
        go_ret
        exact ⟨rfl, hbel⟩
  · have hne : ((L : Int) != M) = true := by
      have : ¬ (L : Int) = M := by omega
      simpa using this
    rw [show decide (rows1 = rows2) = false from decide_eq_false fun e => hLM (by rw [hL, hM, e])]
    clear hL hM hLM h1 h2 hl hr
    go_enter Tryz.func79, Tryz.ntmps79
    go_wp2_with fail
    go_ret
    exact ⟨rfl, Below.refl _ _⟩
def sameS (n1 m1 : Int) (rows1 : List (List EntI)) (n2 m2 : Int) (rows2 : List (List EntI)) : Bool := decide (n1 = n2) && (decide (m1 = m2) && decide (rows1 = rows2))
set_option maxRecDepth 100000 in
set_option maxHeartbeats 2000000 in
theorem ssame_any (w : World) (v1 v2 : Value) (n1 m1 n2 m2 : Int) (rows1 rows2 : List (List EntI)) (h1 : SpG w v1 n1 m1 rows1) (h2 : SpG w v2 n2 m2 rows2) (hr : rows1.length ≤ 4096) (hl : ∀ i, (rows1.getD i []).length ≤ 4096) :
    Calls Tryz.prog 23 #[v1, v2] w fun e w' => e = .returned (.bool (sameS n1 m1 rows1 n2 m2 rows2)) ∧ Below w.heap.size w w' := by
  have hE : ∀ W a1 c1 a2 c2, Below w.heap.size w W → v1 = .agg #[.int .i64 n1, .int .i64 m1, .slice a1 rows1.length c1] → v2 = .agg #[.int .i64 n2, .int .i64 m2, .slice a2 rows2.length c2] → Calls Tryz.prog _ _ _ _ := fun W a1 c1 a2 c2 hb e1 e2 => equalF_any W a1 a2 c1 c2 rows1 rows2 (by
      obtain ⟨a, c, h, hx⟩ := h1.call hb
      rw [e1] at h
      simp only [Value.agg.injEq] at h
      have h3 := congrArg Array.toList h
      simp only [List.cons.injEq, Value.slice.injEq, true_and, and_true] at h3
      rw [h3.1]; exact hx) (by
      obtain ⟨a, c, h, hx⟩ := h2.call hb
      rw [e2] at h
      simp only [Value.agg.injEq] at h
      have h3 := congrArg Array.toList h
      simp only [List.cons.injEq, Value.slice.injEq, true_and, and_true] at h3
      rw [h3.1]; exact hx) hr hl
  obtain ⟨a1, c1, rfl, _⟩ := h1
  obtain ⟨a2, c2, rfl, _⟩ := h2
  have hE2 := fun W hb => hE W a1 c1 a2 c2 hb rfl rfl
  obtain ⟨L, hL⟩ : ∃ L, L = rows1.length := ⟨_, rfl⟩
  obtain ⟨M, hM⟩ : ∃ M, M = rows2.length := ⟨_, rfl⟩
  obtain ⟨r, hrr⟩ : ∃ r, r = decide (rows1 = rows2) := ⟨_, rfl⟩
  unfold sameS
  rw [← hL, ← hM, ← hrr] at hE2
  rw [← hL, ← hM, ← hrr]
  clear hE hL hM hrr hr hl
  by_cases hn : n1 = n2
  · rw [decide_eq_true hn, Bool.true_and]
    have hb1 : (n1 == n2) = true := by simpa using hn
    by_cases hm : m1 = m2
    · rw [decide_eq_true hm, Bool.true_and]
      have hb2 : (m1 == m2) = true := by simpa using hm
      clear hn hm
      go_enter Tryz.func23, Tryz.ntmps23
      go_wp2_with fail
      ((with_reducible refine (hE2 _ ?_).mono ?_))
      · exact (((In.self w).alloc _).alloc _).bel
      rintro e w2 ⟨rfl, hb⟩
      have hin := (((In.self w).alloc _).alloc _).call hb
      clear hb hE2
      go_wp2_with fail
      go_ret
      exact ⟨rfl, hin.bel⟩
    · rw [decide_eq_false hm, Bool.false_and]
      have hb2 : (m1 == m2) = false := by simpa using hm
      clear hn hm hE2
      go_enter Tryz.func23, Tryz.ntmps23
      go_wp2_with fail
      go_ret
      exact ⟨rfl, (((In.self w).alloc _).alloc _).bel⟩
  · rw [decide_eq_false hn, Bool.false_and]
    have hb1 : (n1 == n2) = false := by simpa using hn
    clear hn hE2
    go_enter Tryz.func23, Tryz.ntmps23
    go_wp2_with fail
    go_ret
    exact ⟨rfl, (((In.self w).alloc _).alloc _).bel⟩
end Gus
end
section
/- sparses.Symmetric, sparses.Count, a nil builder's matrix. -/
namespace Gus
open Go Go.RowKit Go.Proofs
def gRows (r c : Nat) (f : Nat → Nat → Rat) : List (List EntI) := (mrows r c f).map fun es => es.map cI
theorem gRows_length (r c : Nat) (f : Nat → Nat → Rat) : (gRows r c f).length = r := by unfold gRows; rw [List.length_map, mrows_length]
theorem gRows_row {r c : Nat} (f : Nat → Nat → Rat) (i : Nat) : ((gRows r c f).getD i []).length ≤ c := by
  unfold gRows
  by_cases hi : i < r
  · have e : ((mrows r c f).map fun es => es.map cI).getD i [] = ((mrows r c f).getD i []).map cI := by
      simp only [List.getD_eq_getElem?_getD, List.getElem?_map, List.getElem?_eq_getElem (show i < (mrows r c f).length by rw [mrows_length]; exact hi)]; rfl
    rw [e, List.length_map]
    exact mrows_row r c f i
  · rw [List.getD_eq_getElem?_getD, List.getElem?_eq_none (by rw [List.length_map, mrows_length]; omega)]; exact Nat.zero_le _
/-- whether two matrices are the same -/
def sameM (r c : Nat) (f : Nat → Nat → Rat) (r' c' : Nat) (g : Nat → Nat → Rat) : Bool := sameS r c (gRows r c f) r' c' (gRows r' c' g)
theorem ssame_ok {w : World} {v1 v2 : Value} {r c r' c' : Nat} {f g : Nat → Nat → Rat} (h1 : SpM w v1 r c f) (h2 : SpM w v2 r' c' g) (hr : r ≤ 2048) (hc : c ≤ 2048) :
    Calls Tryz.prog 23 #[v1, v2] w fun e w' => e = .returned (.bool (sameM r c f r' c' g)) ∧ Below w.heap.size w w' :=
  ssame_any w v1 v2 r c r' c' (gRows r c f) (gRows r' c' g) h1.g h2.g (by rw [gRows_length]; omega) (fun i => Nat.le_trans (gRows_row f i) (by omega))
theorem sameM_self {r c : Nat} {f g : Nat → Nat → Rat} (h : ∀ i k, i < r → k < c → f i k = g i k) : sameM r c f r c g = true := by
  unfold sameM sameS gRows
  rw [mrows_congr h]; simp
set_option maxRecDepth 100000 in
set_option maxHeartbeats 2000000 in
theorem symm_any {j : Nat} (w : World) (v : Value) (r c : Nat) (f : Nat → Nat → Rat) (hS : SpM w v r c f) (hr : r ≤ 2048) (hc : c ≤ 2048) (hz : ∀ i k, SzK j (f i k)) (hcap : r * c * (j + 1) + 1 < 17592186044416) :
    Calls Tryz.prog 33 #[v] w fun e w' => e = .returned (.bool (sameM r c f c r fun k i => f i k)) ∧ Below w.heap.size w w' := by
  have ht := fun W (hb : Below w.heap.size w W) => turn_any W v r c f (hS.call hb) hr hc hz hcap
  obtain ⟨a, cap, rfl⟩ := hS.shape
  obtain ⟨X, hX⟩ : ∃ X, X = w.heap.size := ⟨_, rfl⟩
  have HX := Lib.hid hX
  have HS := Lib.hid hS
  clear hS hcap hz
  go_enter Tryz.func33, Tryz.ntmps33
  go_wp2_with fail
  ((with_reducible refine (ht _ ?_).mono ?_))
  · exact ((In.self w).alloc _).bel
  rintro e w2 ⟨tv, rfl, htv, hb⟩
  have hin := ((In.self w).alloc (.cells #[.int .i64 r, .int .i64 c, .slice a r cap] 63)).call hb
  have bx := (Bx.new_at w #[.int .i64 r, .int .i64 c, .slice a r cap] 63 hX).call hb
  have htm : SpM w2 tv c r (fun k i => f i k) := htv.m
  have hs2 := HS.out.call hin.bel
  obtain ⟨ta, tc, rfl⟩ := htm.shape
  rw [← hX] at hin ⊢
  clear hX htv hb ht
  go_upto_region 2 with fail
  have bt := Bx.new w2 #[.int .i64 c, .int .i64 r, .slice ta c tc] 63
  have bx3 := bx.alloc (.cells #[.int .i64 c, .int .i64 r, .slice ta c tc] 63)
  have hin3 := hin.alloc (.cells #[.int .i64 c, .int .i64 r, .slice ta c tc] 63)
  have hsm := ssame_ok (hs2.call ((Below.refl _ _).alloc (Nat.le_refl _) (.cells #[.int .i64 c, .int .i64 r, .slice ta c tc] 63))) (htm.call ((Below.refl _ _).alloc (Nat.le_refl _) (.cells #[.int .i64 c, .int .i64 r, .slice ta c tc] 63))) hr hc
  have x0 := bx3.c0
  have x1 := bx3.c1
  have x2 := bx3.c2
  have t0 := bt.c0
  have t1 := bt.c1
  have t2 := bt.c2
  have hxl := bx3.lt
  have htl := bt.lt
  clear bx hin hs2 htm
  generalize w2.alloc (.cells #[.int .i64 c, .int .i64 r, .slice ta c tc] 63) = W3 at *
  go_wp2_with fail
  ((with_reducible refine hsm.mono ?_))
  rintro e w4 ⟨rfl, hb4⟩
  have hin4 := hin3.call hb4
  clear hsm hb4 x0 x1 x2 t0 t1 t2
  go_wp2_with fail
  go_ret
  exact ⟨rfl, by rw [← HX.out]; exact hin4.bel⟩
theorem count1_any (W : World) (q n : Nat) (i k : Int) (x : Rat) (hq : Bx W q 3 [.int .i64 (n : Int)]) (hn : n < 4611686018427387904) :
    Calls Tryz.prog 86 #[.int .i64 i, .int .i64 k, fracV x, .pointer (some ⟨q, 0, none⟩)] W fun e w' => e = .returned (.tuple #[]) ∧ Bx w' q 3 [.int .i64 ((n + 1 : Nat) : Int)] ∧ W.grownBy w' (some q) := by
  obtain ⟨A1, A2, A3, A4, A5, hA⟩ : ∃ A1 A2 A3 A4 A5, fracV x = .agg #[.int .u64 A1, .string A2, .bool A3, .int .u64 A4, .string A5] := ⟨_, _, _, _, _, rfl⟩
  rw [hA]
  have hnw : IntKind.i64.wrap ((n : Int) + 1) = ((n + 1 : Nat) : Int) := IntWalk.i64_in _ (by omega)
  have H1 := Lib.hid ((hq.set 0 (.int .i64 ((n + 1 : Nat) : Int))).alloc (.cells #[.int .u64 A1, .string A2, .bool A3, .int .u64 A4, .string A5] 56))
  have H2 := Lib.hid ((gr_cell W ⟨q, 0, none⟩ (.int .i64 ((n + 1 : Nat) : Int))).trans (World.grownBy_alloc _ (.cells #[.int .u64 A1, .string A2, .bool A3, .int .u64 A4, .string A5] 56) (some q)))
  have q0 := hq.c0
  have qf := hq.frozen 0
  have hql := hq.lt
  clear hA hq
  go_enter Tryz.func86, Tryz.ntmps86
  go_wp2_with fail
  go_end0
  first | exact ⟨rfl, H1.out, H2.out⟩ | (rw [show ((n : Int) + 1) = ((n + 1 : Nat) : Int) by omega]; exact ⟨rfl, H1.out, H2.out⟩)
set_option maxRecDepth 100000 in
set_option maxHeartbeats 2000000 in
theorem count_ok (w : World) (v : Value) (r c : Nat) (f : Nat → Nat → Rat) (hS : SpM w v r c f) (hr : r ≤ 2048) (hc : c ≤ 2048) :
    Calls Tryz.prog 32 #[v] w fun e w' => e = .returned (.int .i64 ((items r c f).length : Int)) ∧ Below w.heap.size w w' := by
  have hck := fun W (hb : Below w.heap.size w W) => scheck_ok (hS.call hb) hr hc
  obtain ⟨a, cap, rfl⟩ := hS.shape
  obtain ⟨X, hX⟩ : ∃ X, X = w.heap.size := ⟨_, rfl⟩
  have HX := Lib.hid hX
  have HS := Lib.hid hS
  obtain ⟨T, hT⟩ : ∃ T, T = (items r c f).length := ⟨_, rfl⟩
  have hTb : T ≤ 4194304 := by rw [hT]; exact Nat.le_trans (items_length r c f) (Nat.mul_le_mul hr hc)
  rw [← hT]
  have HT := Lib.hid hT
  clear hS hT
  go_enter Tryz.func32, Tryz.ntmps32
  go_wp2_with fail
  ((with_reducible refine (hck _ ?_).mono ?_))
  · exact (((In.self w).alloc _).alloc _).bel
  rintro e w2 ⟨rfl, hb⟩
  have hin := (((In.self w).alloc (.cells #[.int .i64 r, .int .i64 c, .slice a r cap] 63)).alloc (.cells #[.int .i64 0] 3)).call hb
  have bx := ((Bx.new_at w #[.int .i64 r, .int .i64 c, .slice a r cap] 63 hX).alloc (.cells #[.int .i64 0] 3)).call hb
  have bq := (Bx.new_at (w.alloc (.cells #[.int .i64 r, .int .i64 c, .slice a r cap] 63)) #[.int .i64 0] 3 (n := X + 1) (by rw [World.size_alloc, hX])).call hb
  rw [← hX]
  have hT := HT.out
  have he := each_any (fun t W => Bx W (X + 1) 3 [.int .i64 ((T - t.length : Nat) : Int)] ∧ In w.heap.size w W ∧ t.length ≤ T)
    w w2 (.agg #[.int .i64 r, .int .i64 c, .slice a r cap]) r c (mrows r c f) 86 #[.pointer (some ⟨X + 1, 0, none⟩)] (enters_of Tryz.func86 (by kernel_rfl) rfl) HS.out (fun t W h => h.2.1) (fun t W W' h hb => ⟨h.1.call hb, h.2.1.call hb, h.2.2⟩)
    (fun i k x t W h => by
      have h3 := h.2.2
      rw [List.length_cons] at h3
      refine (count1_any W (X + 1) _ i k x h.1 (by omega)).mono ?_
      rintro e w' ⟨rfl, h1, h2⟩
      rw [List.length_cons, show T - (t.length + 1) + 1 = T - t.length by omega] at h1
      exact ⟨rfl, h1, h.2.1.grown h2 (by omega), by omega⟩)
    (by rw [mrows_length]; omega) (fun i => Nat.le_trans (mrows_row r c f i) (by omega))
    ⟨by rw [show itemsF 0 (mrows r c f) = items r c f from rfl, ← hT, Nat.sub_self]; exact bq, hin, by rw [show itemsF 0 (mrows r c f) = items r c f from rfl, hT]; exact Nat.le_refl _⟩
  have x0 := bx.c0
  have x1 := bx.c1
  have x2 := bx.c2
  have hxl := bx.lt
  clear hX hck hb bx bq hin hT
  go_wp2_with fail
  ((with_reducible refine he.mono ?_))
  rintro e w4 ⟨rfl, h1, h2, _⟩
  rw [List.length_nil, Nat.sub_zero] at h1
  have q0 := h1.c0
  have qf := h1.frozen 0
  have hql := h1.lt
  have H1 := Lib.hid (h1.set 0 (.int .i64 (T : Int)))
  have H2 := Lib.hid (h2.setCell (p := ⟨X + 1, 0, none⟩) (by rw [← HX.out]; simp) (.int .i64 (T : Int)))
  clear he x0 x1 x2 h1 h2
  go_wp2_with fail
  have h1 := H1.out
  have h2 := H2.out
  clear H1 H2 q0 qf hql
  generalize w4.setCell ⟨X + 1, 0, none⟩ (.int .i64 (T : Int)) = W5 at *
  have e0 : W5.cell? ⟨X + 1, 0, none⟩ = some (.int .i64 T) := h1.cell 0
  refine bodyPost_ret (v := .int .i64 T) ?_ rfl ⟨rfl, h2.bel⟩
  simp [results, Tryz.results32, go_sem, e0]
theorem bsparse_nil (w : World) : Calls Tryz.prog 18 #[.pointer none] w fun e w' => e = .returned (.agg #[.int .i64 0, .int .i64 0, .slice none 0 0]) ∧ Below w.heap.size w w' := by
  go_enter Tryz.func18, Tryz.ntmps18
  go_wp2_with fail
  exact bodyPost_ret (v := .agg #[.int .i64 0, .int .i64 0, .slice none 0 0]) (by simp [results, Tryz.results18, go_sem, *]) rfl ⟨rfl, by (refine In.bel ?_; (repeat (first | (refine In.setCell ?_ (by first | omega | (simp; done) | (simp; omega)) _) | (refine In.alloc ?_ _) | (refine In.drew ?_))); (first | exact In.self _ | (refine In.out h ?_ (by first | omega | (simp; done) | (simp; omega)); (repeat (first | (refine In.setCell ?_ (by first | omega | (simp; done) | (simp; omega)) _) | (refine In.alloc ?_ _) | (refine In.drew ?_))); exact In.self _)))⟩
end Gus
end
section
/- sparses.Of. -/
namespace Gus
open Go Go.RowKit Go.Proofs
abbrev Itm := Int × Int × Rat
def ics (x : Itm) : List Value := .int .i64 x.1 :: .int .i64 x.2.1 :: fcs x.2.2
/-- a slice of items as it is read -/
def ItsAt (w : World) (a : Option Addr) (its : List Itm) : Prop := ∀ i, i < its.length → ∃ b off, a = some ⟨b, off, none⟩ ∧ b < w.heap.size ∧ ∀ j, j < 7 → w.cell? ⟨b, off + i * 7 + j, none⟩ = (ics (its.getD i (0, 0, 0)))[j]?
theorem ItsAt.call {w w' : World} {a : Option Addr} {its : List Itm} (h : ItsAt w a its) (hb : Below w.heap.size w w') : ItsAt w' a its := fun i hi => by
  obtain ⟨b, off, h1, h2, h3⟩ := h i hi
  exact ⟨b, off, h1, Nat.lt_of_lt_of_le h2 hb.size, fun j hj => by rw [hb.cell (p := ⟨b, off + i * 7 + j, none⟩) h2]; exact h3 j hj⟩
def okI (n m : Nat) (x : Itm) : Bool := decide (0 ≤ x.1) && decide (x.1 < n) && decide (0 ≤ x.2.1) && decide (x.2.1 < m)
def toN (x : Itm) : Nat × Nat × Rat := (x.1.toNat, x.2.1.toNat, x.2.2)
abbrev zeroSp : Value := .agg #[.int .i64 0, .int .i64 0, .slice none 0 0]
theorem of_bad (n m : Int) (hs : sidesE n m ≠ 0) (av : Value) (w : World) :
    Calls Tryz.prog 22 #[.int .i64 n, .int .i64 m, av] w fun e w' => e = .returned (.tuple #[zeroSp, .int .i64 (sidesE n m)]) ∧ Below w.heap.size w w' := by
  have h1 := new_bad n m hs
  obtain ⟨s, hse⟩ : ∃ s, s = sidesE n m := ⟨_, rfl⟩
  rw [← hse] at h1 hs ⊢
  have hb : (s != 0) = true := by simpa using hs
  clear hse hs
  go_enter Tryz.func22, Tryz.ntmps22
  go_wp2_with fail
  ((with_reducible refine (h1 _).mono ?_))
  rintro e w2 ⟨rfl, hbel⟩
  have hin := ((In.self w).alloc (.cells #[.int .i64 0, .int .i64 0, .slice none 0 0] 63)).call hbel
  have br := (Bx.new w #[.int .i64 0, .int .i64 0, .slice none 0 0] 63).call hbel
  have r0 := br.c0
  have r1 := br.c1
  have r2 := br.c2
  have f0 := br.frozen 0
  have f1 := br.frozen 1
  have f2 := br.frozen 2
  have hrl := br.lt
  have H1 := Lib.hid (((br.set 0 (.int .i64 0)).set 1 (.int .i64 0)).set 2 (.slice none 0 0))
  have H2 := Lib.hid (((hin.setCell (p := ⟨w.heap.size, 0, none⟩) (Nat.le_refl _) (.int .i64 0)).setCell (p := ⟨w.heap.size, 1, none⟩) (Nat.le_refl _) (.int .i64 0)).setCell (p := ⟨w.heap.size, 2, none⟩) (Nat.le_refl _) (.slice none 0 0))
  clear hbel hin br h1
  go_wp2_with fail
  have g1 := H1.out
  have g2 := H2.out
  clear H1 H2 r0 r1 r2 f0 f1 f2 hrl
  generalize ((w2.setCell ⟨w.heap.size, 0, none⟩ (.int .i64 0)).setCell ⟨w.heap.size, 1, none⟩ (.int .i64 0)).setCell ⟨w.heap.size, 2, none⟩ (.slice none 0 0) = W5 at *
  have e0 : W5.cell? ⟨w.heap.size, 0, none⟩ = some (.int .i64 0) := g1.cell 0
  have e1 : W5.cell? ⟨w.heap.size, 1, none⟩ = some (.int .i64 0) := g1.cell 1
  have e2 : W5.cell? ⟨w.heap.size, 2, none⟩ = some (.slice none 0 0) := g1.cell 2
  refine bodyPost_ret (v := .tuple #[zeroSp, .int .i64 s]) ?_ rfl ⟨rfl, g2.bel⟩
  simp [results, Tryz.results22, go_sem, e0, e1, e2]
theorem SpOwn.mono {w : World} {lo lo' : Nat} {v : Value} {r c : Nat} {Ls : Nat → List Ent} (h : SpOwn w lo v r c Ls) (hl : lo' ≤ lo) : SpOwn w lo' v r c Ls := by
  obtain ⟨R, vs, h1, h2, h3⟩ := h
  exact ⟨R, vs, h1, by omega, h3⟩
def OfPost (w : World) (n m : Nat) (its : List Itm) (e : Ending) (w' : World) : Prop :=
  ((its.all (okI n m) = true ∧ ∃ v, e = .returned (.tuple #[v, .int .i64 0]) ∧ SpN w' w.heap.size v n m (foldA (fun _ _ => 0) (its.map toN))) ∨ (its.all (okI n m) = false ∧ e = .returned (.tuple #[zeroSp, .int .i64 1]))) ∧ Below w.heap.size w w'
theorem foldA_snoc (f : Nat → Nat → Rat) (L : List (Nat × Nat × Rat)) (x : Nat × Nat × Rat) : foldA f (L ++ [x]) = addF (foldA f L) x := by
  unfold foldA; rw [List.foldl_append]; rfl
theorem take_getD {α : Type} (l : List α) (d : α) {i : Nat} (hi : i < l.length) : l.take (i + 1) = l.take i ++ [l.getD i d] := by
  rw [List.take_succ_eq_append_getElem hi, List.getD_eq_getElem?_getD, List.getElem?_eq_getElem hi]; rfl
theorem all_take {α : Type} (l : List α) (d : α) (p : α → Bool) {i : Nat} (hi : i < l.length) (h : (l.take i).all p = true) (h2 : p (l.getD i d) = true) : (l.take (i + 1)).all p = true := by
  rw [take_getD l d hi, List.all_append, h, List.all_cons, h2, List.all_nil]; rfl
theorem all_false {α : Type} (l : List α) (d : α) (p : α → Bool) {i : Nat} (hi : i < l.length) (h2 : p (l.getD i d) = false) : l.all p = false := by
  rw [List.all_eq_false]
  exact ⟨l.getD i d, by rw [List.getD_eq_getElem?_getD, List.getElem?_eq_getElem hi]; exact List.getElem_mem hi, by rw [h2]; decide⟩
set_option maxRecDepth 100000 in
set_option maxHeartbeats 4000000 in
theorem of_ok {j : Nat} (w : World) (n m : Nat) (a : Option Addr) (cap : Nat) (its : List Itm) (hI : ItsAt w a its) (hn : n ≤ 2048) (hm : m ≤ 2048) (hl : its.length ≤ 1048576) (hz : ∀ i, SzK j (its.getD i (0, 0, 0)).2.2) (hcap : its.length * (j + 1) + 1 < 17592186044416) :
    Calls Tryz.prog 22 #[.int .i64 n, .int .i64 m, .slice a its.length cap] w (OfPost w n m its) := by
  have h1 := new_ok n m hn hm
  obtain ⟨L, hL⟩ : ∃ L, L = its.length := ⟨_, rfl⟩
  unfold ItsAt at hI
  rw [← hL] at hI hl hcap ⊢
  obtain ⟨X, hX⟩ : ∃ X, X = w.heap.size := ⟨_, rfl⟩
  have HX := Lib.hid hX
  have HI := Lib.hid hI
  have HL := Lib.hid hL
  have HZ := Lib.hid hz
  have HC := Lib.hid hcap
  clear hI hL hz hcap
  go_enter Tryz.func22, Tryz.ntmps22
  go_wp2_with fail
  ((with_reducible refine (h1 _).mono ?_))
  rintro e w2 ⟨b, rfl, hb, hB, hbel⟩
  have hin : In X w w2 := by rw [hX]; exact ((In.self w).alloc _).call hbel
  have br := (Bx.new_at w #[.int .i64 0, .int .i64 0, .slice none 0 0] 63 hX).call hbel
  rw [World.size_alloc, ← hX] at hb
  rw [← hX]
  clear hX hbel h1
  go_wp2_with fail
  go_loopw [25] (fun v25 wr => ∃ k : Nat, k ≤ L ∧ v25 = .int .i64 k ∧ In X w wr ∧ Bx wr X 63 [.int .i64 0, .int .i64 0, .slice none 0 0] ∧ BB wr (b + 1) b k n m (foldA (fun _ _ => 0) ((its.take k).map toN)) ∧ (∀ x y, SzK (1 + k * (j + 1)) (foldA (fun _ _ => 0) ((its.take k).map toN) x y)) ∧ Hid ((its.take k).all (okI n m) = true)) (fun v25 _ => L - (RowKit.intOf v25).toNat)
  case atStart => exact ⟨0, Nat.zero_le _, rfl, hin, br, hB, fun _ _ => (show SzK _ 0 from SzK.zero.mono (by omega)), Lib.hid rfl⟩
  case round =>
    clear hin br hB
    obtain ⟨k, hk, rfl, hin, br, hB, hsz, HA⟩ := hrel
    by_cases hkL : k < L
    · obtain ⟨b2, off, rfl, hb2, hc⟩ := HI.out k hkL
      obtain ⟨x, hx⟩ : ∃ x, x = its.getD k (0, 0, 0) := ⟨_, rfl⟩
      rw [← hx] at hc
      have hzx := HZ.out k
      rw [← hx] at hzx
      obtain ⟨A1, A2, A3, A4, A5, hA, hA2⟩ : ∃ A1 A2 A3 A4 A5, fcs x.2.2 = [.int .u64 A1, .string A2, .bool A3, .int .u64 A4, .string A5] ∧ fracV x.2.2 = .agg #[.int .u64 A1, .string A2, .bool A3, .int .u64 A4, .string A5] := ⟨_, _, _, _, _, rfl, rfl⟩
      have hics : ics x = [.int .i64 x.1, .int .i64 x.2.1, .int .u64 A1, .string A2, .bool A3, .int .u64 A4, .string A5] := by unfold ics; rw [hA]
      rw [hics] at hc
      rw [← HX.out] at hb2
      have d0 := (hin.cell b2 (off + k * 7) hb2).trans (hc 0 (by decide))
      have d1 := (hin.cell b2 (off + k * 7 + 1) hb2).trans (hc 1 (by decide))
      have d2 := (hin.cell b2 (off + k * 7 + 2) hb2).trans (hc 2 (by decide))
      have d3 := (hin.cell b2 (off + k * 7 + 3) hb2).trans (hc 3 (by decide))
      have d4 := (hin.cell b2 (off + k * 7 + 4) hb2).trans (hc 4 (by decide))
      have d5 := (hin.cell b2 (off + k * 7 + 5) hb2).trans (hc 5 (by decide))
      have d6 := (hin.cell b2 (off + k * 7 + 6) hb2).trans (hc 6 (by decide))
      simp only [List.getElem?_cons_zero, List.getElem?_cons_succ] at d0 d1 d2 d3 d4 d5 d6
      have hbw : b2 < wr.heap.size := by have := hin.siz; omega
      have hkI : (k : Int) < L := by omega
      have hk0 : (0 : Int) ≤ k := by omega
      have hkw : IntKind.i64.wrap ((k : Int) + 1) = ((k + 1 : Nat) : Int) := IntWalk.i64_in _ (by omega)
      have hkj : (k + 1) * (j + 1) ≤ L * (j + 1) := Nat.mul_le_mul_right _ (by omega)
      have hcl := HC.out
      obtain ⟨y, hy⟩ : ∃ y, y = x.1 := ⟨_, rfl⟩
      obtain ⟨z, hz⟩ : ∃ z, z = x.2.1 := ⟨_, rfl⟩
      obtain ⟨q, hq⟩ : ∃ q, q = x.2.2 := ⟨_, rfl⟩
      rw [← hy] at d0
      rw [← hz] at d1
      rw [← hq] at hzx hA2
      by_cases hok : 0 ≤ y ∧ y < n ∧ 0 ≤ z ∧ z < m
      · obtain ⟨y', rfl⟩ := Int.eq_ofNat_of_zero_le hok.1
        obtain ⟨z', rfl⟩ := Int.eq_ofNat_of_zero_le hok.2.2.1
        have hx2 : toN x = (y', z', q) := by unfold toN; rw [← hy, ← hz, ← hq]; rfl
        have hxo : okI n m x = true := by unfold okI; rw [← hy, ← hz]; simp; omega
        have ha := fun o => badd_in (s := 1 + k * (j + 1)) (j := j) (wr.alloc o) (b + 1) b k n m _ y' z' q (hB.alloc o) (by omega) (by omega) hn hm (by simp only [maxLen]; omega) (by omega) (hsz _ _) hzx (by rw [Nat.add_mul, Nat.one_mul] at hkj; omega)
        have e1 : setF (foldA (fun _ _ => 0) ((its.take k).map toN)) y' z' (foldA (fun _ _ => 0) ((its.take k).map toN) y' z' + q) = foldA (fun _ _ => 0) ((its.take (k + 1)).map toN) := by
          rw [take_getD its (0, 0, 0) (by rw [← HL.out]; exact hkL), ← hx, List.map_append, List.map_singleton, foldA_snoc, hx2]; rfl
        have hsz2 := SzK_foldA (x := (y', z', q)) hsz hzx
        rw [show addF (foldA (fun _ _ => 0) ((its.take k).map toN)) (y', z', q) = foldA (fun _ _ => 0) ((its.take (k + 1)).map toN) from e1] at hsz2
        rw [e1] at ha
        have HA2 : Hid ((its.take (k + 1)).all (okI n m) = true) := Lib.hid (all_take its (0, 0, 0) _ (by rw [← HL.out]; exact hkL) HA.out (by rw [← hx]; exact hxo))
        rw [hA2] at ha
        have HZ2 := Lib.hid hsz2
        clear hsz2 hx2 hxo e1 HA hx hy hz hq hics hc hA hA2 hzx hok hsz
        go_wp2_with fail
        ((with_reducible refine (ha _).mono ?_))
        rintro e w4 ⟨rfl, hB4, hg⟩
        have hin4 := (hin.alloc _).grown hg (by omega)
        have br4 := (br.alloc _).grown hg (by simp; omega)
        clear ha hg hin br hB d0 d1 d2 d3 d4 d5 d6 hbw
        go_wp2_with fail
        exact ⟨⟨k + 1, by omega, by go_num, hin4, br4, hB4, fun x y => (HZ2.out x y).mono (by rw [Nat.add_mul]; omega), HA2⟩, by simp [RowKit.intOf]; omega⟩
      · have ha := fun o => badd_out (wr.alloc o) (b + 1) b k n m _ y z q (hB.alloc o) (fun h => hok ⟨h.1, h.2.1, h.2.2.1, h.2.2.2⟩)
        have hxo : okI n m x = false := by
          unfold okI
          rw [← hy, ← hz]
          simp
          omega
        have HAF := Lib.hid (all_false its (0, 0, 0) (okI n m) (by rw [← HL.out]; exact hkL) (by rw [← hx]; exact hxo))
        rw [hA2] at ha
        clear hxo HA hx hy hz hq hics hc hA hA2 hzx hok hsz hB
        go_wp2_with fail
        ((with_reducible refine (ha _).mono ?_))
        rintro e w4 ⟨rfl, hbel⟩
        have hin4 := (hin.alloc _).call hbel
        have br4 := (br.alloc _).call hbel
        have r0 := br4.c0
        have r1 := br4.c1
        have r2 := br4.c2
        have f0 := br4.frozen 0
        have f1 := br4.frozen 1
        have f2 := br4.frozen 2
        have hrl := br4.lt
        have H1 := Lib.hid (((br4.set 0 (.int .i64 0)).set 1 (.int .i64 0)).set 2 (.slice none 0 0))
        have H2 := Lib.hid (((hin4.setCell (p := ⟨X, 0, none⟩) (Nat.le_refl _) (.int .i64 0)).setCell (p := ⟨X, 1, none⟩) (Nat.le_refl _) (.int .i64 0)).setCell (p := ⟨X, 2, none⟩) (Nat.le_refl _) (.slice none 0 0))
        clear ha hbel hin br hin4 br4 d0 d1 d2 d3 d4 d5 d6 hbw
        go_wp2_with fail
        have g1 := H1.out
        have g2 := H2.out
        clear H1 H2 r0 r1 r2 f0 f1 f2 hrl
        generalize ((w4.setCell ⟨X, 0, none⟩ (.int .i64 0)).setCell ⟨X, 1, none⟩ (.int .i64 0)).setCell ⟨X, 2, none⟩ (.slice none 0 0) = W5 at *
        have e0 : W5.cell? ⟨X, 0, none⟩ = some (.int .i64 0) := g1.cell 0
        have e1 : W5.cell? ⟨X, 1, none⟩ = some (.int .i64 0) := g1.cell 1
        have e2 : W5.cell? ⟨X, 2, none⟩ = some (.slice none 0 0) := g1.cell 2
        refine bodyPost_ret (v := .tuple #[zeroSp, .int .i64 1]) ?_ rfl ⟨.inr ⟨HAF.out, rfl⟩, by rw [← HX.out]; exact g2.bel⟩
        simp [results, Tryz.results22, go_sem, e0, e1, e2]
    · have hkI : ¬ (k : Int) < L := by omega
      have hkL' : k = L := by omega
      have hall := HA.out
      rw [List.take_of_length_le (by rw [← HL.out]; omega)] at hall hB
      have hsp := bsparse_any wr (b + 1) b k n m _ hB hn hm
      have HALL := Lib.hid hall
      have hXw := hin.siz
      clear hall hB hsz HA hkL'
      go_wp2_with fail
      ((with_reducible refine hsp.mono ?_))
      rintro e w5 ⟨v5, rfl, hv5, hb5⟩
      ((obtain ⟨R, h5⟩ : ∃ R, v5 = .agg #[(.int .i64 ((n : Nat) : Int)), (.int .i64 ((m : Nat) : Int)), (.slice (some ⟨R, 0, none⟩) (n) (n))] := by (obtain ⟨R, _, h, _⟩ := hv5; exact ⟨R, h⟩)); (have br5 := br.call hb5); (have hin5 := hin.call hb5); (have hXl := br.lt); (have hv7 := ((SpOwn.other (a := ⟨X, 0, none⟩) hv5 hXl (.int .i64 ((n : Nat) : Int))).other (a := ⟨X, 1, none⟩) hXl (.int .i64 ((m : Nat) : Int))).other (a := ⟨X, 2, none⟩) hXl (.slice (some ⟨R, 0, none⟩) (n) (n))); (have br6 := ((br5.set 0 (.int .i64 ((n : Nat) : Int))).set 1 (.int .i64 ((m : Nat) : Int))).set 2 (.slice (some ⟨R, 0, none⟩) (n) (n))); (have hin6 := ((hin5.setCell (p := ⟨X, 0, none⟩) (by simp) (.int .i64 ((n : Nat) : Int))).setCell (p := ⟨X, 1, none⟩) (by simp) (.int .i64 ((m : Nat) : Int))).setCell (p := ⟨X, 2, none⟩) (by simp) (.slice (some ⟨R, 0, none⟩) (n) (n))); (have f0 := br5.frozen 0); (have f1 := br5.frozen 1); (have f2 := br5.frozen 2); (have b0 := br5.c0); (have b1 := br5.c1); (have b2 := br5.c2); (have hl5 := br5.lt); (subst h5); (have H1 := Lib.hid hv7); (have H2 := Lib.hid br6); (have H3 := Lib.hid hin6); (clear hv7 br6 hin6 hv5 hb5 br br5 hin hin5); (go_wp2_with fail); (have h1 := H1.out); (have h2 := H2.out); (have h3 := H3.out); (clear H1 H2 H3 f0 f1 f2 b0 b1 b2 hl5); (generalize ((w5.setCell ⟨X, 0, none⟩ (.int .i64 ((n : Nat) : Int))).setCell ⟨X, 1, none⟩ (.int .i64 ((m : Nat) : Int))).setCell ⟨X, 2, none⟩ (.slice (some ⟨R, 0, none⟩) (n) (n)) = W6 at *); (have e0 : W6.cell? ⟨X, 0, none⟩ = some (.int .i64 ((n : Nat) : Int)) := h2.cell 0); (have e1 : W6.cell? ⟨X, 1, none⟩ = some (.int .i64 ((m : Nat) : Int)) := h2.cell 1); (have e2 : W6.cell? ⟨X, 2, none⟩ = some (.slice (some ⟨R, 0, none⟩) (n) (n)) := h2.cell 2); (have hfin := SpOwn.mono h1 (show w.heap.size ≤ (World.heap wr).size by rw [← HX.out]; omega)); (have hbelow : Below w.heap.size w W6 := h3.bel.mono (by have := HX.out; omega)); (refine bodyPost_ret (v := .tuple #[.agg #[(.int .i64 ((n : Nat) : Int)), (.int .i64 ((m : Nat) : Int)), (.slice (some ⟨R, 0, none⟩) (n) (n))], .int .i64 0]) ?_ rfl ⟨.inl ⟨HALL.out, _, rfl, hfin⟩, hbelow⟩); (simp [results, Tryz.results22, go_sem, e0, e1, e2]))
end Gus
end
section
/- sparses.One. -/
namespace Gus
open Go Go.RowKit Go.Proofs
def dg (n : Nat) (i k : Nat) : Rat := if i = k ∧ i < n then 1 else 0
theorem dg_zero : dg 0 = fun _ _ => 0 := by
  funext i k; unfold dg; rw [if_neg (fun h => Nat.not_lt_zero _ h.2)]
theorem dg_succ (n i k : Nat) : dg (n + 1) i k = setF (dg n) n n (dg n n n + ((1 : Int) : Rat)) i k := by
  unfold setF
  by_cases h : i = n ∧ k = n
  · obtain ⟨rfl, rfl⟩ := h
    rw [if_pos ⟨rfl, rfl⟩]
    unfold dg
    rw [if_pos ⟨rfl, by omega⟩, if_neg (fun h => Nat.lt_irrefl _ h.2)]
    decide +kernel
  · rw [if_neg h]
    unfold dg
    by_cases h2 : i = k ∧ i < n
    · rw [if_pos h2, if_pos ⟨h2.1, by omega⟩]
    · rw [if_neg h2, if_neg (fun h3 => h2 ⟨h3.1, by omega⟩)]
theorem dg_size (n i k : Nat) : SzK 1 (dg n i k) := by
  unfold dg; split
  · exact SzK.one
  · exact SzK.zero
theorem one_bad (n : Int) (hs : sidesE n n ≠ 0) (w : World) :
    Calls Tryz.prog 31 #[.int .i64 n] w fun e w' => e = .returned (.tuple #[zeroSp, .int .i64 (sidesE n n)]) ∧ Below w.heap.size w w' := by
  have h1 := new_bad n n hs
  obtain ⟨s, hse⟩ : ∃ s, s = sidesE n n := ⟨_, rfl⟩
  rw [← hse] at h1 hs ⊢
  have hb : (s != 0) = true := by simpa using hs
  clear hse hs
  go_enter Tryz.func31, Tryz.ntmps31
  go_wp2_with fail
  ((with_reducible refine (h1 _).mono ?_))
  rintro e w2 ⟨rfl, hbel⟩
  have hin := ((In.self w).alloc (.cells #[.int .i64 0, .int .i64 0, .slice none 0 0] 63)).call hbel
  have br := (Bx.new w #[.int .i64 0, .int .i64 0, .slice none 0 0] 63).call hbel
  have r0 := br.c0
  have r1 := br.c1
  have r2 := br.c2
  have f0 := br.frozen 0
  have f1 := br.frozen 1
  have f2 := br.frozen 2
  have hrl := br.lt
  have H1 := Lib.hid (((br.set 0 (.int .i64 0)).set 1 (.int .i64 0)).set 2 (.slice none 0 0))
  have H2 := Lib.hid (((hin.setCell (p := ⟨w.heap.size, 0, none⟩) (Nat.le_refl _) (.int .i64 0)).setCell (p := ⟨w.heap.size, 1, none⟩) (Nat.le_refl _) (.int .i64 0)).setCell (p := ⟨w.heap.size, 2, none⟩) (Nat.le_refl _) (.slice none 0 0))
  clear hbel hin br h1
  go_wp2_with fail
  have g1 := H1.out
  have g2 := H2.out
  clear H1 H2 r0 r1 r2 f0 f1 f2 hrl
  generalize ((w2.setCell ⟨w.heap.size, 0, none⟩ (.int .i64 0)).setCell ⟨w.heap.size, 1, none⟩ (.int .i64 0)).setCell ⟨w.heap.size, 2, none⟩ (.slice none 0 0) = W5 at *
  have e0 : W5.cell? ⟨w.heap.size, 0, none⟩ = some (.int .i64 0) := g1.cell 0
  have e1 : W5.cell? ⟨w.heap.size, 1, none⟩ = some (.int .i64 0) := g1.cell 1
  have e2 : W5.cell? ⟨w.heap.size, 2, none⟩ = some (.slice none 0 0) := g1.cell 2
  refine bodyPost_ret (v := .tuple #[zeroSp, .int .i64 s]) ?_ rfl ⟨rfl, g2.bel⟩
  simp [results, Tryz.results31, go_sem, e0, e1, e2]
set_option maxRecDepth 100000 in
set_option maxHeartbeats 4000000 in
theorem one_ok (n : Nat) (hn : n ≤ 2048) (w : World) :
    Calls Tryz.prog 31 #[.int .i64 n] w fun e w' => ∃ v, e = .returned (.tuple #[v, .int .i64 0]) ∧ SpN w' w.heap.size v n n (dg n) ∧ Below w.heap.size w w' := by
  have h1 := new_ok n n hn hn
  obtain ⟨X, hX⟩ : ∃ X, X = w.heap.size := ⟨_, rfl⟩
  have HX := Lib.hid hX
  obtain ⟨q, hq⟩ : ∃ q : Rat, q = ((1 : Int) : Rat) := ⟨_, rfl⟩
  have c1 := fracInt_any 1 (by decide) (by decide)
  rw [← hq] at c1
  have HQ := Lib.hid hq
  clear hq
  go_enter Tryz.func31, Tryz.ntmps31
  go_wp2_with fail
  ((with_reducible refine (h1 _).mono ?_))
  rintro e w2 ⟨b, rfl, hb, hB, hbel⟩
  have hin : In X w w2 := by rw [hX]; exact ((In.self w).alloc _).call hbel
  have br := (Bx.new_at w #[.int .i64 0, .int .i64 0, .slice none 0 0] 63 hX).call hbel
  rw [World.size_alloc, ← hX] at hb
  rw [← hX]
  clear hX hbel h1
  go_wp2_with fail
  go_loopw [18] (fun v18 wr => ∃ k : Nat, k ≤ n ∧ v18 = .int .i64 k ∧ In X w wr ∧ Bx wr X 63 [.int .i64 0, .int .i64 0, .slice none 0 0] ∧ BB wr (b + 1) b k n n (dg k)) (fun v18 _ => n - (RowKit.intOf v18).toNat)
  case atStart => exact ⟨0, Nat.zero_le _, rfl, hin, br, by rw [dg_zero]; exact hB⟩
  case round =>
    clear hin br hB
    obtain ⟨k, hk, rfl, hin, br, hB⟩ := hrel
    by_cases hkn : k < n
    · have hkI : (k : Int) < n := by omega
      have hkw : IntKind.i64.wrap ((k : Int) + 1) = ((k + 1 : Nat) : Int) := IntWalk.i64_in _ (by omega)
      go_wp2_with fail
      ((with_reducible refine (c1 _).mono ?_))
      rintro e w3 ⟨rfl, hbel⟩
      have ha := badd_in (s := 1) (j := 1) w3 (b + 1) b k n n (dg k) k k q (hB.call hbel) hkn hkn hn hn (by simp only [maxLen]; omega) (by omega) (dg_size _ _ _) (by rw [HQ.out]; exact SzK.one) (by decide)
      have hin3 := hin.call hbel
      have br3 := br.call hbel
      clear hbel hin br hB
      go_wp2_with fail
      ((with_reducible refine ha.mono ?_))
      rintro e w4 ⟨rfl, hB4, hg⟩
      have hin4 := hin3.grown hg (by omega)
      have br4 := br3.grown hg (by simp; omega)
      have hB5 : BB w4 (b + 1) b (k + 1) n n (dg (k + 1)) := hB4.ext fun i i' _ _ => by rw [dg_succ, HQ.out]
      clear ha hg hin3 br3 hB4
      go_wp2_with fail
      exact ⟨⟨k + 1, by omega, by go_num, hin4, br4, hB5⟩, by simp [RowKit.intOf]; omega⟩
    · have hkI : ¬ (k : Int) < n := by omega
      have hkL' : k = n := by omega
      rw [hkL'] at hB
      have hsp := bsparse_any wr (b + 1) b n n n _ hB hn hn
      have hXw := hin.siz
      clear hB hkL'
      go_wp2_with fail
      ((with_reducible refine hsp.mono ?_))
      rintro e w5 ⟨v5, rfl, hv5, hb5⟩
      ((obtain ⟨R, h5⟩ : ∃ R, v5 = .agg #[(.int .i64 ((n : Nat) : Int)), (.int .i64 ((n : Nat) : Int)), (.slice (some ⟨R, 0, none⟩) (n) (n))] := by (obtain ⟨R, _, h, _⟩ := hv5; exact ⟨R, h⟩)); (have br5 := br.call hb5); (have hin5 := hin.call hb5); (have hXl := br.lt); (have hv7 := ((SpOwn.other (a := ⟨X, 0, none⟩) hv5 hXl (.int .i64 ((n : Nat) : Int))).other (a := ⟨X, 1, none⟩) hXl (.int .i64 ((n : Nat) : Int))).other (a := ⟨X, 2, none⟩) hXl (.slice (some ⟨R, 0, none⟩) (n) (n))); (have br6 := ((br5.set 0 (.int .i64 ((n : Nat) : Int))).set 1 (.int .i64 ((n : Nat) : Int))).set 2 (.slice (some ⟨R, 0, none⟩) (n) (n))); (have hin6 := ((hin5.setCell (p := ⟨X, 0, none⟩) (by simp) (.int .i64 ((n : Nat) : Int))).setCell (p := ⟨X, 1, none⟩) (by simp) (.int .i64 ((n : Nat) : Int))).setCell (p := ⟨X, 2, none⟩) (by simp) (.slice (some ⟨R, 0, none⟩) (n) (n))); (have f0 := br5.frozen 0); (have f1 := br5.frozen 1); (have f2 := br5.frozen 2); (have b0 := br5.c0); (have b1 := br5.c1); (have b2 := br5.c2); (have hl5 := br5.lt); (subst h5); (have H1 := Lib.hid hv7); (have H2 := Lib.hid br6); (have H3 := Lib.hid hin6); (clear hv7 br6 hin6 hv5 hb5 br br5 hin hin5); (go_wp2_with fail); (have h1 := H1.out); (have h2 := H2.out); (have h3 := H3.out); (clear H1 H2 H3 f0 f1 f2 b0 b1 b2 hl5); (generalize ((w5.setCell ⟨X, 0, none⟩ (.int .i64 ((n : Nat) : Int))).setCell ⟨X, 1, none⟩ (.int .i64 ((n : Nat) : Int))).setCell ⟨X, 2, none⟩ (.slice (some ⟨R, 0, none⟩) (n) (n)) = W6 at *); (have e0 : W6.cell? ⟨X, 0, none⟩ = some (.int .i64 ((n : Nat) : Int)) := h2.cell 0); (have e1 : W6.cell? ⟨X, 1, none⟩ = some (.int .i64 ((n : Nat) : Int)) := h2.cell 1); (have e2 : W6.cell? ⟨X, 2, none⟩ = some (.slice (some ⟨R, 0, none⟩) (n) (n)) := h2.cell 2); (have hfin := SpOwn.mono h1 (show w.heap.size ≤ (World.heap wr).size by rw [← HX.out]; omega)); (have hbelow : Below w.heap.size w W6 := h3.bel.mono (by have := HX.out; omega)); (refine bodyPost_ret (v := .tuple #[.agg #[(.int .i64 ((n : Nat) : Int)), (.int .i64 ((n : Nat) : Int)), (.slice (some ⟨R, 0, none⟩) (n) (n))], .int .i64 0]) ?_ rfl ⟨_, rfl, hfin, hbelow⟩); (simp [results, Tryz.results31, go_sem, e0, e1, e2]))
end Gus
end
