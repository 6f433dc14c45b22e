/- Proved here: parts of the proof: Same SameB Cnt Of One. Conditions: those that each theorem states. -/
import Derived.Test.YtjiobckoldnonaaGreatDoorShelfVQ
section
/- Equality of fractions, entries, rows, matrices. -/
namespace Gus
open Go Go.RowKit Go.Proofs
/-- the parts by which a fraction is told -/
theorem frac_iff (p q : Rat) : (lo p.num.natAbs = lo q.num.natAbs ∧ (bg p.num.natAbs).toList = (bg q.num.natAbs).toList ∧ decide (p.num < 0) = decide (q.num < 0) ∧ lo (p.den - 1) = lo (q.den - 1) ∧ (bg (p.den - 1)).toList = (bg (q.den - 1)).toList) ↔ p = q := by
  constructor
  · rintro ⟨h1, h2, h3, h4, h5⟩
    have hn := (nat_eq_iff' _ _).1 ⟨h1, h2⟩
    have hd := (nat_eq_iff' _ _).1 ⟨h4, h5⟩
    rw [decide_eq_decide] at h3
    have := p.den_pos; have := q.den_pos
    refine Rat.ext ?_ (by omega)
    by_cases hp : p.num < 0
    · have := h3.1 hp; omega
    · have : ¬ q.num < 0 := fun h => hp (h3.2 h)
      omega
  · rintro rfl; exact ⟨rfl, rfl, rfl, rfl, rfl⟩
set_option maxHeartbeats 2000000 in
theorem entNeq_run (x y : EntI) (w : World) : (binOp .neq 111 (.agg (ecsI x).toArray) (.agg (ecsI y).toArray)).run Tryz.prog w = .ok (.bool (!decide (x = y))) w := by
  obtain ⟨i, p⟩ := x
  obtain ⟨k, q⟩ := y
  have h := frac_iff p q
  simp only [ecsI, fcs, Prod.mk.injEq]
  generalize lo p.num.natAbs = a1 at *
  generalize lo q.num.natAbs = b1 at *
  generalize bg p.num.natAbs = a2 at *
  generalize bg q.num.natAbs = b2 at *
  generalize decide (p.num < 0) = a3 at *
  generalize decide (q.num < 0) = b3 at *
  generalize lo (p.den - 1) = a4 at *
  generalize lo (q.den - 1) = b4 at *
  generalize bg (p.den - 1) = a5 at *
  generalize bg (q.den - 1) = b5 at *
  simp [go_sem]
  by_cases h0 : i = k <;> by_cases h1 : a1 = b1 <;> by_cases h2 : a2.toList = b2.toList <;> by_cases h3 : a3 = b3 <;> by_cases h4 : a4 = b4 <;> by_cases h5 : a5.toList = b5.toList <;> simp [h0, h1, h2, h3, h4, h5] at h ⊢ <;> (try simp [h])
set_option maxRecDepth 100000 in
set_option maxHeartbeats 2000000 in
theorem equalE_any (w : World) (v1 v2 : Value) (es1 es2 : List EntI) (h1 : RowG w v1 es1) (h2 : RowG w v2 es2) (hl : es1.length ≤ 4096) :
    Calls Tryz.prog 81 #[v1, v2] w fun e w' => e = .returned (.bool (decide (es1 = es2))) ∧ Below w.heap.size w w' := by
  have H1 := Lib.hid h1
  have H2 := Lib.hid h2
  obtain ⟨a1, c1, rfl, _⟩ := h1
  obtain ⟨a2, c2, rfl, _⟩ := h2
  obtain ⟨L, hL⟩ : ∃ L, L = es1.length := ⟨_, rfl⟩
  obtain ⟨M, hM⟩ : ∃ M, M = es2.length := ⟨_, rfl⟩
  rw [← hL] at hl ⊢
  rw [← hM]
  by_cases hLM : L = M
  · have hne : ((L : Int) != M) = false := by simp [hLM]
    obtain ⟨r, hr⟩ : ∃ r, r = decide (es1 = es2) := ⟨_, rfl⟩
    rw [← hr]
    have HR : Hid (r = decide (es1.drop 0 = es2.drop 0)) := Lib.hid hr
    have HL := Lib.hid hL
    have HM := Lib.hid hM
    have HLM := Lib.hid hLM
    clear hL hM hLM hr
    go_enter Tryz.func81, Tryz.ntmps81
    go_wp2_with fail
    go_loopw [13] (fun v13 wr => ∃ j : Nat, j ≤ L ∧ v13 = .int .i64 j ∧ Below w.heap.size w wr ∧ Hid (r = decide (es1.drop j = es2.drop j))) (fun v13 _ => L - (RowKit.intOf v13).toNat)
    case atStart => exact ⟨0, Nat.zero_le _, rfl, Below.refl _ _, HR⟩
    case round =>
      clear HR
      obtain ⟨j, hj, rfl, hbel, HR⟩ := hrel
      by_cases hjL : j < L
      · have hd1 := drop_getD es1 (0, 0) (show j < es1.length by rw [← HL.out]; exact hjL)
        have hd2 := drop_getD es2 (0, 0) (show j < es2.length by rw [← HM.out, ← HLM.out]; exact hjL)
        obtain ⟨b1, o1, k1, A1, A2, A3, A4, A5, hv1, hb1, hf1, _, x0, x1, x2, x3, x4, x5⟩ := (H1.out.call hbel).at (i := j) (by rw [← HL.out]; exact hjL)
        obtain ⟨b2, o2, k2, B1, B2, B3, B4, B5, hv2, hb2, hf2, _, y0, y1, y2, y3, y4, y5⟩ := (H2.out.call hbel).at (i := j) (by rw [← HM.out, ← HLM.out]; exact hjL)
        simp only [Value.slice.injEq] at hv1 hv2
        obtain ⟨rfl, _, hk1⟩ := hv1
        obtain ⟨rfl, _, hk2⟩ := hv2
        subst hk1 hk2
        obtain ⟨e1, he1⟩ : ∃ e, e = es1.getD j (0, 0) := ⟨_, rfl⟩
        obtain ⟨e2, he2⟩ : ∃ e, e = es2.getD j (0, 0) := ⟨_, rfl⟩
        have hneq := fun W => entNeq_run e1 e2 W
        have hr := HR.out
        rw [hd1, hd2, ← he1, ← he2] at hr
        unfold ecsI at hneq
        rw [← he1] at hf1 x0
        rw [← he2] at hf2 y0
        rw [hf1, hf2] at hneq
        obtain ⟨z1, hz1⟩ : ∃ z, z = e1.1 := ⟨_, rfl⟩
        obtain ⟨z2, hz2⟩ : ∃ z, z = e2.1 := ⟨_, rfl⟩
        rw [← hz1] at hneq x0
        rw [← hz2] at hneq y0
        have hjI : (j : Int) < L := by omega
        have hjM : (j : Int) < M := by have := HLM.out; omega
        have hj0 : (0 : Int) ≤ j := by omega
        have hjw : IntKind.i64.wrap ((j : Int) + 1) = ((j + 1 : Nat) : Int) := IntWalk.i64_in _ (by omega)
        clear hd1 hd2 HR
        by_cases heq : e1 = e2
        · rw [show (!decide (e1 = e2)) = false by simp [heq]] at hneq
          have hr2 : r = decide (es1.drop (j + 1) = es2.drop (j + 1)) := by rw [hr, heq]; simp
          have HR2 := Lib.hid hr2
          clear hr2 hr heq he1 he2 hz1 hz2 hf1 hf2
          go_upto_region 6 with fail
          have h := In.self wr
          have hc := h.cell
          refine wp_region_flow 8 (by kernel_rfl) (by kernel_rfl) (fun _ _ d _ _ h => by cases d <;> exact h) ?_; simp only [List.take_succ_cons, List.take_zero, List.drop_succ_cons, List.drop_zero]; simp only [putAll, Act.put, List.setIfInBounds_toArray, List.set]; (try simp only [Nat.reduceAdd]); (try simp only [Nat.zero_add]); (repeat (first | ((with_reducible refine flow_float (v := ?_) ?_ ?_ ?_); rotate_left 1; (focus (with_reducible rfl)); (focus (intro u w1 hw hd w2; (try simp only [depH] at hd); (try simp only [ext] at hd); (try simp only [extU] at hd); (try simp only [Nat.reduceAdd] at hd); (try simp only [Nat.reduceEqDiff] at hd); (try simp only [reduceIte] at hd); (try simp only [if_true] at hd); (try simp only [if_false] at hd); (try simp only [and_true] at hd); (try simp only [true_and] at hd); go_simp; exact rfl))) | ((with_reducible refine flow_pure0 (v := ?_) ?_ ?_ ?_ ?_); rotate_left 1; (focus (with_reducible rfl)); (focus rfl); (focus (intro u w1 hw hd; (try simp only [depH] at hd); (try simp only [ext] at hd); (try simp only [extU] at hd); (try simp only [Nat.reduceAdd] at hd); (try simp only [Nat.reduceEqDiff] at hd); (try simp only [reduceIte] at hd); (try simp only [if_true] at hd); (try simp only [if_false] at hd); (try simp only [and_true] at hd); (try simp only [true_and] at hd); have hc' := hw.cell; go_simp; exact rfl))) | ((with_reducible refine flow_skipg (j := ?_) (b := ?_) ?_ ?_ ?_); rotate_left 2; (focus (with_reducible rfl)); (focus (intro u w1 hw hd; (try simp only [depH] at hd); (try simp only [ext] at hd); (try simp only [extU] at hd); (try simp only [Nat.reduceAdd] at hd); (try simp only [Nat.reduceEqDiff] at hd); (try simp only [reduceIte] at hd); (try simp only [if_true] at hd); (try simp only [if_false] at hd); (try simp only [and_true] at hd); (try simp only [true_and] at hd); simp [yielded, hd]; done))) | ((with_reducible refine flow_pureg (v := ?_) (j := ?_) (b := ?_) ?_ ?_ ?_ ?_); rotate_left 3; (focus (with_reducible rfl)); (focus (intro u w1 hw hd; (try simp only [depH] at hd); (try simp only [ext] at hd); (try simp only [extU] at hd); (try simp only [Nat.reduceAdd] at hd); (try simp only [Nat.reduceEqDiff] at hd); (try simp only [reduceIte] at hd); (try simp only [if_true] at hd); (try simp only [if_false] at hd); (try simp only [and_true] at hd); (try simp only [true_and] at hd); simp [yielded, hd]; done)); (focus (intro u w1 hw hd; (try simp only [depH] at hd); (try simp only [ext] at hd); (try simp only [extU] at hd); (try simp only [Nat.reduceAdd] at hd); (try simp only [Nat.reduceEqDiff] at hd); (try simp only [reduceIte] at hd); (try simp only [if_true] at hd); (try simp only [if_false] at hd); (try simp only [and_true] at hd); (try simp only [true_and] at hd); have hc' := hw.cell; go_simp; exact rfl))) | ((with_reducible refine flow_alloc (t := ?_) (zs := ?_) ?_ ?_ ?_ ?_); rotate_left 2; (focus (with_reducible rfl)); (focus rfl); (focus (intro u w1; go_simp; exact rfl)))))
          (try clear hc hf h); intro u w' h ha hdi; replace h := h.ins; (try simp only [World.size_alloc] at h); (try dsimp only at ha); (repeat rw [World.size_alloc] at ha); (try simp only [allH] at ha); (try simp only [ext] at ha); (try simp only [extU] at ha); (try simp only [Nat.reduceAdd] at ha); (try simp only [Nat.reduceEqDiff] at ha); (try simp only [reduceIte] at ha); (try simp only [if_true] at ha); (try simp only [if_false] at ha); (try simp only [and_true] at ha); (try simp only [true_and] at ha); have hc := h.cell; have hf := h.frozen
          (try obtain ha := ha); (try dsimp only);  simp only [ha]; clear ha hdi 
          have hbel2 := hbel.trans (h.bel.mono hbel.size)
          clear hc hf h
          go_wp2_with fail
          exact ⟨⟨j + 1, by omega, by go_num, hbel2, HR2⟩, by simp [RowKit.intOf]; omega⟩
        · rw [show (!decide (e1 = e2)) = true by simp [heq]] at hneq
          have hr2 : r = false := by rw [hr]; simp [heq]
          subst hr2
          clear hr heq he1 he2 hz1 hz2 hf1 hf2
          go_upto_region 6 with fail
          have h := In.self wr
          have hc := h.cell
          refine wp_region_flow 8 (by kernel_rfl) (by kernel_rfl) (fun _ _ d _ _ h => by cases d <;> exact h) ?_; simp only [List.take_succ_cons, List.take_zero, List.drop_succ_cons, List.drop_zero]; simp only [putAll, Act.put, List.setIfInBounds_toArray, List.set]; (try simp only [Nat.reduceAdd]); (try simp only [Nat.zero_add]); (repeat (first | ((with_reducible refine flow_float (v := ?_) ?_ ?_ ?_); rotate_left 1; (focus (with_reducible rfl)); (focus (intro u w1 hw hd w2; (try simp only [depH] at hd); (try simp only [ext] at hd); (try simp only [extU] at hd); (try simp only [Nat.reduceAdd] at hd); (try simp only [Nat.reduceEqDiff] at hd); (try simp only [reduceIte] at hd); (try simp only [if_true] at hd); (try simp only [if_false] at hd); (try simp only [and_true] at hd); (try simp only [true_and] at hd); go_simp; exact rfl))) | ((with_reducible refine flow_pure0 (v := ?_) ?_ ?_ ?_ ?_); rotate_left 1; (focus (with_reducible rfl)); (focus rfl); (focus (intro u w1 hw hd; (try simp only [depH] at hd); (try simp only [ext] at hd); (try simp only [extU] at hd); (try simp only [Nat.reduceAdd] at hd); (try simp only [Nat.reduceEqDiff] at hd); (try simp only [reduceIte] at hd); (try simp only [if_true] at hd); (try simp only [if_false] at hd); (try simp only [and_true] at hd); (try simp only [true_and] at hd); have hc' := hw.cell; go_simp; exact rfl))) | ((with_reducible refine flow_skipg (j := ?_) (b := ?_) ?_ ?_ ?_); rotate_left 2; (focus (with_reducible rfl)); (focus (intro u w1 hw hd; (try simp only [depH] at hd); (try simp only [ext] at hd); (try simp only [extU] at hd); (try simp only [Nat.reduceAdd] at hd); (try simp only [Nat.reduceEqDiff] at hd); (try simp only [reduceIte] at hd); (try simp only [if_true] at hd); (try simp only [if_false] at hd); (try simp only [and_true] at hd); (try simp only [true_and] at hd); simp [yielded, hd]; done))) | ((with_reducible refine flow_pureg (v := ?_) (j := ?_) (b := ?_) ?_ ?_ ?_ ?_); rotate_left 3; (focus (with_reducible rfl)); (focus (intro u w1 hw hd; (try simp only [depH] at hd); (try simp only [ext] at hd); (try simp only [extU] at hd); (try simp only [Nat.reduceAdd] at hd); (try simp only [Nat.reduceEqDiff] at hd); (try simp only [reduceIte] at hd); (try simp only [if_true] at hd); (try simp only [if_false] at hd); (try simp only [and_true] at hd); (try simp only [true_and] at hd); simp [yielded, hd]; done)); (focus (intro u w1 hw hd; (try simp only [depH] at hd); (try simp only [ext] at hd); (try simp only [extU] at hd); (try simp only [Nat.reduceAdd] at hd); (try simp only [Nat.reduceEqDiff] at hd); (try simp only [reduceIte] at hd); (try simp only [if_true] at hd); (try simp only [if_false] at hd); (try simp only [and_true] at hd); (try simp only [true_and] at hd); have hc' := hw.cell; go_simp; exact rfl))) | ((with_reducible refine flow_alloc (t := ?_) (zs := ?_) ?_ ?_ ?_ ?_); rotate_left 2; (focus (with_reducible rfl)); (focus rfl); (focus (intro u w1; go_simp; exact rfl)))))
          (try clear hc hf h); intro u w' h ha hdi; replace h := h.ins; (try simp only [World.size_alloc] at h); (try dsimp only at ha); (repeat rw [World.size_alloc] at ha); (try simp only [allH] at ha); (try simp only [ext] at ha); (try simp only [extU] at ha); (try simp only [Nat.reduceAdd] at ha); (try simp only [Nat.reduceEqDiff] at ha); (try simp only [reduceIte] at ha); (try simp only [if_true] at ha); (try simp only [if_false] at ha); (try simp only [and_true] at ha); (try simp only [true_and] at ha); have hc := h.cell; have hf := h.frozen
          (try obtain ha := ha); (try dsimp only);  simp only [ha]; clear ha hdi 
          have hbel2 := hbel.trans (h.bel.mono hbel.size)
          clear hc hf h
          go_wp2_with fail
          go_ret
          exact ⟨rfl, hbel2⟩
      · have hr := HR.out
        rw [List.drop_eq_nil_of_le (by rw [← HL.out]; omega), List.drop_eq_nil_of_le (by rw [← HM.out, ← HLM.out]; omega)] at hr
        have hr2 : r = true := by rw [hr]; rfl
        subst hr2
        have hjI : ¬ (j : Int) < L := by omega
        clear hr HR
        go_wp2_with fail
        go_ret
        exact ⟨rfl, hbel⟩
  · have hne : ((L : Int) != M) = true := by
      have : ¬ (L : Int) = M := by omega
      simpa using this
    rw [show decide (es1 = es2) = false from decide_eq_false fun e => hLM (by rw [hL, hM, e])]
    clear hL hM hLM
    go_enter Tryz.func81, Tryz.ntmps81
    go_wp2_with fail
    go_ret
    exact ⟨rfl, Below.refl _ _⟩
end Gus
end
section
/- sparses.Same, sparses.Symmetric. -/
namespace Gus
open Go Go.RowKit Go.Proofs
def RwG (w : World) (a : Option Addr) (rows : List (List EntI)) : Prop := ∀ i, i < rows.length → ∃ b off x, a = some ⟨b, off, none⟩ ∧ b < w.heap.size ∧ w.cell? ⟨b, off + i, none⟩ = some x ∧ RowG w x (rows.getD i [])
theorem same1_any (w : World) (v1 v2 : Value) (es1 es2 : List EntI) (h1 : RowG w v1 es1) (h2 : RowG w v2 es2) (hl : es1.length ≤ 4096) :
    Calls Tryz.prog 80 #[v1, v2] w fun e w' => e = .returned (.bool (decide (es1 = es2))) ∧ Below w.heap.size w w' := by
  have h := equalE_any w v1 v2 es1 es2 h1 h2 hl
  obtain ⟨r, hr⟩ : ∃ r, r = decide (es1 = es2) := ⟨_, rfl⟩
  rw [← hr] at h ⊢
  clear hr h1 h2
  go_enter Tryz.func80, Tryz.ntmps80
  go_wp2_with fail
  ((with_reducible refine h.mono ?_))
  rintro e w' ⟨rfl, hb⟩
  clear h
  go_wp2_with fail
  go_ret
  exact ⟨rfl, hb⟩
set_option maxRecDepth 100000 in
set_option maxHeartbeats 2000000 in
theorem equalF_any (w : World) (a1 a2 : Option Addr) (c1 c2 : Nat) (rows1 rows2 : List (List EntI)) (h1 : RwG w a1 rows1) (h2 : RwG w a2 rows2) (hr : rows1.length ≤ 4096) (hl : ∀ i, (rows1.getD i []).length ≤ 4096) :
    Calls Tryz.prog 79 #[.slice a1 rows1.length c1, .slice a2 rows2.length c2, .func (.func 80) #[] #[]] w fun e w' => e = .returned (.bool (decide (rows1 = rows2))) ∧ Below w.heap.size w w' := by
  have eg : ∀ args w, (callFunc 80 args).run Tryz.prog w = .ok (.enter 80 args) w := enters_of Tryz.func80 (by kernel_rfl) rfl
  obtain ⟨L, hL⟩ : ∃ L, L = rows1.length := ⟨_, rfl⟩
  obtain ⟨M, hM⟩ : ∃ M, M = rows2.length := ⟨_, rfl⟩
  unfold RwG at h1 h2
  rw [← hL] at hr h1 ⊢
  rw [← hM] at h2 ⊢
  by_cases hLM : L = M
  · have hne : ((L : Int) != M) = false := by simp [hLM]
    obtain ⟨r, hrr⟩ : ∃ r, r = decide (rows1 = rows2) := ⟨_, rfl⟩
    rw [← hrr]
    have HR : Hid (r = decide (rows1.drop 0 = rows2.drop 0)) := Lib.hid hrr
    have H1 := Lib.hid h1
    have H2 := Lib.hid h2
    have HL := Lib.hid hL
    have HM := Lib.hid hM
    have HLM := Lib.hid hLM
    have HLL := Lib.hid hl
    clear hL hM hLM hrr h1 h2 hl
    go_enter Tryz.func79, Tryz.ntmps79
    go_wp2_with fail
    go_loopw [17] (fun v17 wr => ∃ j : Nat, j ≤ L ∧ v17 = .int .i64 j ∧ Below w.heap.size w wr ∧ Hid (r = decide (rows1.drop j = rows2.drop j))) (fun v17 _ => L - (RowKit.intOf v17).toNat)
    case atStart => exact ⟨0, Nat.zero_le _, rfl, Below.refl _ _, HR⟩
    case round =>
      clear HR
      obtain ⟨j, hj, rfl, hbel, HR⟩ := hrel
      by_cases hjL : j < L
      · have hd1 := drop_getD rows1 [] (show j < rows1.length by rw [← HL.out]; exact hjL)
        have hd2 := drop_getD rows2 [] (show j < rows2.length by rw [← HM.out, ← HLM.out]; exact hjL)
        obtain ⟨b1, o1, x1, rfl, hb1, hc1, hx1⟩ := H1.out j hjL
        obtain ⟨b2, o2, x2, rfl, hb2, hc2, hx2⟩ := H2.out j (by rw [← HLM.out]; exact hjL)
        rw [← hbel.cell (p := ⟨b1, o1 + j, none⟩) hb1] at hc1
        rw [← hbel.cell (p := ⟨b2, o2 + j, none⟩) hb2] at hc2
        have hbw1 : b1 < wr.heap.size := Nat.lt_of_lt_of_le hb1 hbel.size
        have hbw2 : b2 < wr.heap.size := Nat.lt_of_lt_of_le hb2 hbel.size
        have hs := same1_any wr x1 x2 _ _ (hx1.call hbel) (hx2.call hbel) (HLL.out j)
        have hrr := HR.out
        rw [hd1, hd2] at hrr
        obtain ⟨e1, he1⟩ : ∃ e, e = rows1.getD j [] := ⟨_, rfl⟩
        obtain ⟨e2, he2⟩ : ∃ e, e = rows2.getD j [] := ⟨_, rfl⟩
        rw [← he1, ← he2] at hrr hs
        obtain ⟨xa1, xn1, xk1, hxs1⟩ : ∃ a n k, x1 = .slice a n k := by obtain ⟨_, _, h, _⟩ := hx1; exact ⟨_, _, _, h⟩
        obtain ⟨xa2, xn2, xk2, hxs2⟩ : ∃ a n k, x2 = .slice a n k := by obtain ⟨_, _, h, _⟩ := hx2; exact ⟨_, _, _, h⟩
        subst hxs1 hxs2
        have hjI : (j : Int) < L := by omega
        have hjM : (j : Int) < M := by have := HLM.out; omega
        have hj0 : (0 : Int) ≤ j := by omega
        have hjw : IntKind.i64.wrap ((j : Int) + 1) = ((j + 1 : Nat) : Int) := IntWalk.i64_in _ (by omega)
        clear hd1 hd2 HR hb1 hb2 hx1 hx2
        by_cases heq : e1 = e2
        · rw [decide_eq_true heq] at hs
          have hr2 : r = decide (rows1.drop (j + 1) = rows2.drop (j + 1)) := by rw [hrr, heq]; simp
          have HR2 := Lib.hid hr2
          clear hr2 hrr heq he1 he2
          go_wp2_with fail
          ((with_reducible refine hs.mono ?_))
          rintro e w2 ⟨rfl, hb⟩
          have hbel2 := hbel.trans (hb.mono hbel.size)
          clear hb hs hc1 hc2 hbw1 hbw2
          go_wp2_with fail
          exact ⟨⟨j + 1, by omega, by go_num, hbel2, HR2⟩, by simp [RowKit.intOf]; omega⟩
        · rw [decide_eq_false heq] at hs
          have hr2 : r = false := by rw [hrr]; simp [heq]
          subst hr2
          clear hrr heq he1 he2
          go_wp2_with fail
          ((with_reducible refine hs.mono ?_))
          rintro e w2 ⟨rfl, hb⟩
          have hbel2 := hbel.trans (hb.mono hbel.size)
          clear hb hs hc1 hc2 hbw1 hbw2
          go_wp2_with fail
          go_ret
          exact ⟨rfl, hbel2⟩
      · have hrr := HR.out
        rw [List.drop_eq_nil_of_le (by rw [← HL.out]; omega), List.drop_eq_nil_of_le (by rw [← HM.out, ← HLM.out]; omega)] at hrr
        have hr2 : r = true := by rw [hrr]; rfl
        subst hr2
        have hjI : ¬ (j : Int) < L := by omega
        clear hrr HR
        go_wp2_with fail
        go_ret
        exact ⟨rfl, hbel⟩
  · have hne : ((L : Int) != M) = true := by
      have : ¬ (L : Int) = M := by omega
      simpa using this
    rw [show decide (rows1 = rows2) = false from decide_eq_false fun e => hLM (by rw [hL, hM, e])]
    clear hL hM hLM h1 h2 hl hr
    go_enter Tryz.func79, Tryz.ntmps79
    go_wp2_with fail
    go_ret
    exact ⟨rfl, Below.refl _ _⟩
def sameS (n1 m1 : Int) (rows1 : List (List EntI)) (n2 m2 : Int) (rows2 : List (List EntI)) : Bool := decide (n1 = n2) && (decide (m1 = m2) && decide (rows1 = rows2))
set_option maxRecDepth 100000 in
set_option maxHeartbeats 2000000 in
theorem ssame_any (w : World) (v1 v2 : Value) (n1 m1 n2 m2 : Int) (rows1 rows2 : List (List EntI)) (h1 : SpG w v1 n1 m1 rows1) (h2 : SpG w v2 n2 m2 rows2) (hr : rows1.length ≤ 4096) (hl : ∀ i, (rows1.getD i []).length ≤ 4096) :
    Calls Tryz.prog 23 #[v1, v2] w fun e w' => e = .returned (.bool (sameS n1 m1 rows1 n2 m2 rows2)) ∧ Below w.heap.size w w' := by
  have hE : ∀ W a1 c1 a2 c2, Below w.heap.size w W → v1 = .agg #[.int .i64 n1, .int .i64 m1, .slice a1 rows1.length c1] → v2 = .agg #[.int .i64 n2, .int .i64 m2, .slice a2 rows2.length c2] → Calls Tryz.prog _ _ _ _ := fun W a1 c1 a2 c2 hb e1 e2 => equalF_any W a1 a2 c1 c2 rows1 rows2 (by
      obtain ⟨a, c, h, hx⟩ := h1.call hb
      rw [e1] at h
      simp only [Value.agg.injEq] at h
      have h3 := congrArg Array.toList h
      simp only [List.cons.injEq, Value.slice.injEq, true_and, and_true] at h3
      rw [h3.1]; exact hx) (by
      obtain ⟨a, c, h, hx⟩ := h2.call hb
      rw [e2] at h
      simp only [Value.agg.injEq] at h
      have h3 := congrArg Array.toList h
      simp only [List.cons.injEq, Value.slice.injEq, true_and, and_true] at h3
      rw [h3.1]; exact hx) hr hl
  obtain ⟨a1, c1, rfl, _⟩ := h1
  obtain ⟨a2, c2, rfl, _⟩ := h2
  have hE2 := fun W hb => hE W a1 c1 a2 c2 hb rfl rfl
  obtain ⟨L, hL⟩ : ∃ L, L = rows1.length := ⟨_, rfl⟩
  obtain ⟨M, hM⟩ : ∃ M, M = rows2.length := ⟨_, rfl⟩
  obtain ⟨r, hrr⟩ : ∃ r, r = decide (rows1 = rows2) := ⟨_, rfl⟩
  unfold sameS
  rw [← hL, ← hM, ← hrr] at hE2
  rw [← hL, ← hM, ← hrr]
  clear hE hL hM hrr hr hl
  by_cases hn : n1 = n2
  · rw [decide_eq_true hn, Bool.true_and]
    have hb1 : (n1 == n2) = true := by simpa using hn
    by_cases hm : m1 = m2
    · rw [decide_eq_true hm, Bool.true_and]
      have hb2 : (m1 == m2) = true := by simpa using hm
      clear hn hm
      go_enter Tryz.func23, Tryz.ntmps23
      go_wp2_with fail
      ((with_reducible refine (hE2 _ ?_).mono ?_))
      · exact (((In.self w).alloc _).alloc _).bel
      rintro e w2 ⟨rfl, hb⟩
      have hin := (((In.self w).alloc _).alloc _).call hb
      clear hb hE2
      go_wp2_with fail
      go_ret
      exact ⟨rfl, hin.bel⟩
    · rw [decide_eq_false hm, Bool.false_and]
      have hb2 : (m1 == m2) = false := by simpa using hm
      clear hn hm hE2
      go_enter Tryz.func23, Tryz.ntmps23
      go_wp2_with fail
      go_ret
      exact ⟨rfl, (((In.self w).alloc _).alloc _).bel⟩
  · rw [decide_eq_false hn, Bool.false_and]
    have hb1 : (n1 == n2) = false := by simpa using hn
    clear hn hE2
    go_enter Tryz.func23, Tryz.ntmps23
    go_wp2_with fail
    go_ret
    exact ⟨rfl, (((In.self w).alloc _).alloc _).bel⟩
end Gus
end
section
/- sparses.Of. -/
namespace Gus
open Go Go.RowKit Go.Proofs
abbrev Itm := Int × Int × Rat
def ics (x : Itm) : List Value := .int .i64 x.1 :: .int .i64 x.2.1 :: fcs x.2.2
/-- a slice of items as it is read -/
def ItsAt (w : World) (a : Option Addr) (its : List Itm) : Prop := ∀ i, i < its.length → ∃ b off, a = some ⟨b, off, none⟩ ∧ b < w.heap.size ∧ ∀ j, j < 7 → w.cell? ⟨b, off + i * 7 + j, none⟩ = (ics (its.getD i (0, 0, 0)))[j]?
theorem ItsAt.call {w w' : World} {a : Option Addr} {its : List Itm} (h : ItsAt w a its) (hb : Below w.heap.size w w') : ItsAt w' a its := fun i hi => by
  obtain ⟨b, off, h1, h2, h3⟩ := h i hi
  exact ⟨b, off, h1, Nat.lt_of_lt_of_le h2 hb.size, fun j hj => by rw [hb.cell (p := ⟨b, off + i * 7 + j, none⟩) h2]; exact h3 j hj⟩
abbrev zeroSp : Value := .agg #[.int .i64 0, .int .i64 0, .slice none 0 0]
theorem SpOwn.mono {w : World} {lo lo' : Nat} {v : Value} {r c : Nat} {Ls : Nat → List Ent} (h : SpOwn w lo v r c Ls) (hl : lo' ≤ lo) : SpOwn w lo' v r c Ls := by
  obtain ⟨R, vs, h1, h2, h3⟩ := h
  exact ⟨R, vs, h1, by omega, h3⟩
end Gus
end
section
/- sparses.One. -/
namespace Gus
open Go Go.RowKit Go.Proofs
def dg (n : Nat) (i k : Nat) : Rat := if i = k ∧ i < n then 1 else 0
theorem dg_zero : dg 0 = fun _ _ => 0 := by
  funext i k; unfold dg; rw [if_neg (fun h => Nat.not_lt_zero _ h.2)]
theorem dg_succ (n i k : Nat) : dg (n + 1) i k = setF (dg n) n n (dg n n n + ((1 : Int) : Rat)) i k := by
  unfold setF
  by_cases h : i = n ∧ k = n
  · obtain ⟨rfl, rfl⟩ := h
    rw [if_pos ⟨rfl, rfl⟩]
    unfold dg
    rw [if_pos ⟨rfl, by omega⟩, if_neg (fun h => Nat.lt_irrefl _ h.2)]
    decide +kernel
  · rw [if_neg h]
    unfold dg
    by_cases h2 : i = k ∧ i < n
    · rw [if_pos h2, if_pos ⟨h2.1, by omega⟩]
    · rw [if_neg h2, if_neg (fun h3 => h2 ⟨h3.1, by omega⟩)]
theorem dg_size (n i k : Nat) : SzK 1 (dg n i k) := by
  unfold dg; split
  · exact SzK.one
  · exact SzK.zero
set_option maxRecDepth 100000 in
set_option maxHeartbeats 4000000 in
theorem one_ok (n : Nat) (hn : n ≤ 2048) (w : World) :
    Calls Tryz.prog 31 #[.int .i64 n] w fun e w' => ∃ v, e = .returned (.tuple #[v, .int .i64 0]) ∧ SpN w' w.heap.size v n n (dg n) ∧ Below w.heap.size w w' := by
  have h1 := new_ok n n hn hn
  obtain ⟨X, hX⟩ : ∃ X, X = w.heap.size := ⟨_, rfl⟩
  have HX := Lib.hid hX
  obtain ⟨q, hq⟩ : ∃ q : Rat, q = ((1 : Int) : Rat) := ⟨_, rfl⟩
  have c1 := fracInt_any 1 (by decide) (by decide)
  rw [← hq] at c1
  have HQ := Lib.hid hq
  clear hq
  go_enter Tryz.func31, Tryz.ntmps31
  go_wp2_with fail
  ((with_reducible refine (h1 _).mono ?_))
  rintro e w2 ⟨b, rfl, hb, hB, hbel⟩
  have hin : In X w w2 := by rw [hX]; exact ((In.self w).alloc _).call hbel
  have br := (Bx.new_at w #[.int .i64 0, .int .i64 0, .slice none 0 0] 63 hX).call hbel
  rw [World.size_alloc, ← hX] at hb
  rw [← hX]
  clear hX hbel h1
  go_wp2_with fail
  go_loopw [18] (fun v18 wr => ∃ k : Nat, k ≤ n ∧ v18 = .int .i64 k ∧ In X w wr ∧ Bx wr X 63 [.int .i64 0, .int .i64 0, .slice none 0 0] ∧ BB wr (b + 1) b k n n (dg k)) (fun v18 _ => n - (RowKit.intOf v18).toNat)
  case atStart => exact ⟨0, Nat.zero_le _, rfl, hin, br, by rw [dg_zero]; exact hB⟩
  case round =>
    clear hin br hB
    obtain ⟨k, hk, rfl, hin, br, hB⟩ := hrel
    by_cases hkn : k < n
    · have hkI : (k : Int) < n := by omega
      have hkw : IntKind.i64.wrap ((k : Int) + 1) = ((k + 1 : Nat) : Int) := IntWalk.i64_in _ (by omega)
      go_wp2_with fail
      ((with_reducible refine (c1 _).mono ?_))
      rintro e w3 ⟨rfl, hbel⟩
      have ha := badd_in (s := 1) (j := 1) w3 (b + 1) b k n n (dg k) k k q (hB.call hbel) hkn hkn hn hn (by simp only [maxLen]; omega) (by omega) (dg_size _ _ _) (by rw [HQ.out]; exact SzK.one) (by decide)
      have hin3 := hin.call hbel
      have br3 := br.call hbel
      clear hbel hin br hB
      go_wp2_with fail
      ((with_reducible refine ha.mono ?_))
      rintro e w4 ⟨rfl, hB4, hg⟩
      have hin4 := hin3.grown hg (by omega)
      have br4 := br3.grown hg (by simp; omega)
      have hB5 : BB w4 (b + 1) b (k + 1) n n (dg (k + 1)) := hB4.ext fun i i' _ _ => by rw [dg_succ, HQ.out]
      clear ha hg hin3 br3 hB4
      go_wp2_with fail
      exact ⟨⟨k + 1, by omega, by go_num, hin4, br4, hB5⟩, by simp [RowKit.intOf]; omega⟩
    · have hkI : ¬ (k : Int) < n := by omega
      have hkL' : k = n := by omega
      rw [hkL'] at hB
      have hsp := bsparse_any wr (b + 1) b n n n _ hB hn hn
      have hXw := hin.siz
      clear hB hkL'
      go_wp2_with fail
      ((with_reducible refine hsp.mono ?_))
      rintro e w5 ⟨v5, rfl, hv5, hb5⟩
      ((obtain ⟨R, h5⟩ : ∃ R, v5 = .agg #[(.int .i64 ((n : Nat) : Int)), (.int .i64 ((n : Nat) : Int)), (.slice (some ⟨R, 0, none⟩) (n) (n))] := by (obtain ⟨R, _, h, _⟩ := hv5; exact ⟨R, h⟩)); (have br5 := br.call hb5); (have hin5 := hin.call hb5); (have hXl := br.lt); (have hv7 := ((SpOwn.other (a := ⟨X, 0, none⟩) hv5 hXl (.int .i64 ((n : Nat) : Int))).other (a := ⟨X, 1, none⟩) hXl (.int .i64 ((n : Nat) : Int))).other (a := ⟨X, 2, none⟩) hXl (.slice (some ⟨R, 0, none⟩) (n) (n))); (have br6 := ((br5.set 0 (.int .i64 ((n : Nat) : Int))).set 1 (.int .i64 ((n : Nat) : Int))).set 2 (.slice (some ⟨R, 0, none⟩) (n) (n))); (have hin6 := ((hin5.setCell (p := ⟨X, 0, none⟩) (by first | (simp; done) | (simp; omega)) (.int .i64 ((n : Nat) : Int))).setCell (p := ⟨X, 1, none⟩) (by first | (simp; done) | (simp; omega)) (.int .i64 ((n : Nat) : Int))).setCell (p := ⟨X, 2, none⟩) (by first | (simp; done) | (simp; omega)) (.slice (some ⟨R, 0, none⟩) (n) (n))); (have f0 := br5.frozen 0); (have f1 := br5.frozen 1); (have f2 := br5.frozen 2); (have b0 := br5.c0); (have b1 := br5.c1); (have b2 := br5.c2); (have hl5 := br5.lt); (subst h5); (have H1 := Lib.hid hv7); (have H2 := Lib.hid br6); (have H3 := Lib.hid hin6); (clear hv7 br6 hin6 hv5 hb5 br br5 hin hin5); (go_wp2_with fail); (have h1 := H1.out); (have h2 := H2.out); (have h3 := H3.out); (clear H1 H2 H3 f0 f1 f2 b0 b1 b2 hl5); (generalize ((w5.setCell ⟨X, 0, none⟩ (.int .i64 ((n : Nat) : Int))).setCell ⟨X, 1, none⟩ (.int .i64 ((n : Nat) : Int))).setCell ⟨X, 2, none⟩ (.slice (some ⟨R, 0, none⟩) (n) (n)) = W6 at *); (have e0 : W6.cell? ⟨X, 0, none⟩ = some (.int .i64 ((n : Nat) : Int)) := h2.cell 0); (have e1 : W6.cell? ⟨X, 1, none⟩ = some (.int .i64 ((n : Nat) : Int)) := h2.cell 1); (have e2 : W6.cell? ⟨X, 2, none⟩ = some (.slice (some ⟨R, 0, none⟩) (n) (n)) := h2.cell 2); (have hfin := SpOwn.mono h1 (show w.heap.size ≤ (World.heap wr).size by rw [← HX.out]; omega)); (have hbelow : Below w.heap.size w W6 := h3.bel.mono (by have := HX.out; omega)); (refine bodyPost_ret (v := .tuple #[.agg #[(.int .i64 ((n : Nat) : Int)), (.int .i64 ((n : Nat) : Int)), (.slice (some ⟨R, 0, none⟩) (n) (n))], .int .i64 0]) ?_ rfl ⟨_, rfl, hfin, hbelow⟩); (simp [results, Tryz.results31, go_sem, e0, e1, e2]))
end Gus
end
