/- Proved here: parts of the proof: Same SameB Cnt Of One Mtx Sml Ofd Msm Dns Dnb Lof Sma Mak Bin Idx Prt PrtB PrtC At Dia Itm Eql Pur Mal Mea Meb Mad Mtu. Conditions: those that each theorem states. -/
import Derived.Test.YtjiobckoldnonaaGreatDoorShelfVQ
import Derived.Handy
section
/- Equality of fractions, entries, rows, matrices. -/
namespace Gus
open Go Go.RowKit Go.Proofs
/-- the parts by which a fraction is told -/
theorem frac_iff (p q : Rat) : (lo p.num.natAbs = lo q.num.natAbs ∧ (bg p.num.natAbs).toList = (bg q.num.natAbs).toList ∧ decide (p.num < 0) = decide (q.num < 0) ∧ lo (p.den - 1) = lo (q.den - 1) ∧ (bg (p.den - 1)).toList = (bg (q.den - 1)).toList) ↔ p = q := by
  constructor
  · rintro ⟨h1, h2, h3, h4, h5⟩
    have hn := (nat_eq_iff' _ _).1 ⟨h1, h2⟩
    have hd := (nat_eq_iff' _ _).1 ⟨h4, h5⟩
    rw [decide_eq_decide] at h3
    have := p.den_pos; have := q.den_pos
    refine Rat.ext ?_ (by omega)
    by_cases hp : p.num < 0
    · have := h3.1 hp; omega
    · have : ¬ q.num < 0 := fun h => hp (h3.2 h)
      omega
  · rintro rfl; exact ⟨rfl, rfl, rfl, rfl, rfl⟩
set_option maxHeartbeats 2000000 in
theorem entNeq_run (x y : EntI) (w : World) : (binOp .neq 111 (.agg (ecsI x).toArray) (.agg (ecsI y).toArray)).run Tryz.prog w = .ok (.bool (!decide (x = y))) w := by
  obtain ⟨i, p⟩ := x
  obtain ⟨k, q⟩ := y
  have h := frac_iff p q
  simp only [ecsI, fcs, Prod.mk.injEq]
  generalize lo p.num.natAbs = a1 at *
  generalize lo q.num.natAbs = b1 at *
  generalize bg p.num.natAbs = a2 at *
  generalize bg q.num.natAbs = b2 at *
  generalize decide (p.num < 0) = a3 at *
  generalize decide (q.num < 0) = b3 at *
  generalize lo (p.den - 1) = a4 at *
  generalize lo (q.den - 1) = b4 at *
  generalize bg (p.den - 1) = a5 at *
  generalize bg (q.den - 1) = b5 at *
  simp [go_sem]
  by_cases h0 : i = k <;> by_cases h1 : a1 = b1 <;> by_cases h2 : a2.toList = b2.toList <;> by_cases h3 : a3 = b3 <;> by_cases h4 : a4 = b4 <;> by_cases h5 : a5.toList = b5.toList <;> simp [h0, h1, h2, h3, h4, h5] at h ⊢ <;> (try simp [h])
set_option maxRecDepth 100000 in
set_option maxHeartbeats 2000000 in
theorem equalE_any (w : World) (v1 v2 : Value) (es1 es2 : List EntI) (h1 : RowG w v1 es1) (h2 : RowG w v2 es2) (hl : es1.length ≤ 4096) :
    Calls Tryz.prog 81 #[v1, v2] w fun e w' => e = .returned (.bool (decide (es1 = es2))) ∧ Below w.heap.size w w' := by
  have H1 := Lib.hid h1
  have H2 := Lib.hid h2
  obtain ⟨a1, c1, rfl, _⟩ := h1
  obtain ⟨a2, c2, rfl, _⟩ := h2
  obtain ⟨L, hL⟩ : ∃ L, L = es1.length := ⟨_, rfl⟩
  obtain ⟨M, hM⟩ : ∃ M, M = es2.length := ⟨_, rfl⟩
  rw [← hL] at hl ⊢
  rw [← hM]
  by_cases hLM : L = M
  · have hne : ((L : Int) != M) = false := by simp [hLM]
    obtain ⟨r, hr⟩ : ∃ r, r = decide (es1 = es2) := ⟨_, rfl⟩
    rw [← hr]
    have HR : Hid (r = decide (es1.drop 0 = es2.drop 0)) := Lib.hid hr
    have HL := Lib.hid hL
    have HM := Lib.hid hM
    have HLM := Lib.hid hLM
    clear hL hM hLM hr
    go_enter Tryz.func81, Tryz.ntmps81
    go_wp2_with fail
    go_loopw [13] (fun v13 wr => ∃ j : Nat, j ≤ L ∧ v13 = .int .i64 j ∧ Below w.heap.size w wr ∧ Hid (r = decide (es1.drop j = es2.drop j))) (fun v13 _ => L - (RowKit.intOf v13).toNat)
    case atStart => exact ⟨0, Nat.zero_le _, rfl, Below.refl _ _, HR⟩
    case round =>
      clear HR
      obtain ⟨j, hj, rfl, hbel, HR⟩ := hrel
      by_cases hjL : j < L
      · have hd1 := drop_getD es1 (0, 0) (show j < es1.length by rw [← HL.out]; exact hjL)
        have hd2 := drop_getD es2 (0, 0) (show j < es2.length by rw [← HM.out, ← HLM.out]; exact hjL)
        obtain ⟨b1, o1, k1, A1, A2, A3, A4, A5, hv1, hb1, hf1, _, x0, x1, x2, x3, x4, x5⟩ := (H1.out.call hbel).at (i := j) (by rw [← HL.out]; exact hjL)
        obtain ⟨b2, o2, k2, B1, B2, B3, B4, B5, hv2, hb2, hf2, _, y0, y1, y2, y3, y4, y5⟩ := (H2.out.call hbel).at (i := j) (by rw [← HM.out, ← HLM.out]; exact hjL)
        simp only [Value.slice.injEq] at hv1 hv2
        obtain ⟨rfl, _, hk1⟩ := hv1
        obtain ⟨rfl, _, hk2⟩ := hv2
        subst hk1 hk2
        obtain ⟨e1, he1⟩ : ∃ e, e = es1.getD j (0, 0) := ⟨_, rfl⟩
        obtain ⟨e2, he2⟩ : ∃ e, e = es2.getD j (0, 0) := ⟨_, rfl⟩
        have hneq := fun W => entNeq_run e1 e2 W
        have hr := HR.out
        rw [hd1, hd2, ← he1, ← he2] at hr
        unfold ecsI at hneq
        rw [← he1] at hf1 x0
        rw [← he2] at hf2 y0
        rw [hf1, hf2] at hneq
        obtain ⟨z1, hz1⟩ : ∃ z, z = e1.1 := ⟨_, rfl⟩
        obtain ⟨z2, hz2⟩ : ∃ z, z = e2.1 := ⟨_, rfl⟩
        rw [← hz1] at hneq x0
        rw [← hz2] at hneq y0
        have hjI : (j : Int) < L := by omega
        have hjM : (j : Int) < M := by have := HLM.out; omega
        have hj0 : (0 : Int) ≤ j := by omega
        have hjw : IntKind.i64.wrap ((j : Int) + 1) = ((j + 1 : Nat) : Int) := IntWalk.i64_in _ (by omega)
        clear hd1 hd2 HR
        by_cases heq : e1 = e2
        · rw [show (!decide (e1 = e2)) = false by simp [heq]] at hneq
          have hr2 : r = decide (es1.drop (j + 1) = es2.drop (j + 1)) := by rw [hr, heq]; simp
          have HR2 := Lib.hid hr2
          clear hr2 hr heq he1 he2 hz1 hz2 hf1 hf2
          go_upto_region 6 with fail
          have h := In.self wr
          have hc := h.cell
          refine wp_region_flow 8 (by kernel_rfl) (by kernel_rfl) (fun _ _ d _ _ h => by cases d <;> exact h) ?_; simp only [List.take_succ_cons, List.take_zero, List.drop_succ_cons, List.drop_zero]; simp only [putAll, Act.put, List.setIfInBounds_toArray, List.set]; (try simp only [Nat.reduceAdd]); (try simp only [Nat.zero_add]); (repeat (first | ((with_reducible refine flow_float (v := ?_) ?_ ?_ ?_); rotate_left 1; (focus (with_reducible rfl)); (focus (intro u w1 hw hd w2; (try simp only [depH] at hd); (try simp only [ext] at hd); (try simp only [extU] at hd); (try simp only [Nat.reduceAdd] at hd); (try simp only [Nat.reduceEqDiff] at hd); (try simp only [reduceIte] at hd); (try simp only [if_true] at hd); (try simp only [if_false] at hd); (try simp only [and_true] at hd); (try simp only [true_and] at hd); go_simp; exact rfl))) | ((with_reducible refine flow_pure0 (v := ?_) ?_ ?_ ?_ ?_); rotate_left 1; (focus (with_reducible rfl)); (focus rfl); (focus (intro u w1 hw hd; (try simp only [depH] at hd); (try simp only [ext] at hd); (try simp only [extU] at hd); (try simp only [Nat.reduceAdd] at hd); (try simp only [Nat.reduceEqDiff] at hd); (try simp only [reduceIte] at hd); (try simp only [if_true] at hd); (try simp only [if_false] at hd); (try simp only [and_true] at hd); (try simp only [true_and] at hd); have hc' := hw.cell; go_simp; exact rfl))) | ((with_reducible refine flow_skipg (j := ?_) (b := ?_) ?_ ?_ ?_); rotate_left 2; (focus (with_reducible rfl)); (focus (intro u w1 hw hd; (try simp only [depH] at hd); (try simp only [ext] at hd); (try simp only [extU] at hd); (try simp only [Nat.reduceAdd] at hd); (try simp only [Nat.reduceEqDiff] at hd); (try simp only [reduceIte] at hd); (try simp only [if_true] at hd); (try simp only [if_false] at hd); (try simp only [and_true] at hd); (try simp only [true_and] at hd); simp [yielded, hd]; done))) | ((with_reducible refine flow_pureg (v := ?_) (j := ?_) (b := ?_) ?_ ?_ ?_ ?_); rotate_left 3; (focus (with_reducible rfl)); (focus (intro u w1 hw hd; (try simp only [depH] at hd); (try simp only [ext] at hd); (try simp only [extU] at hd); (try simp only [Nat.reduceAdd] at hd); (try simp only [Nat.reduceEqDiff] at hd); (try simp only [reduceIte] at hd); (try simp only [if_true] at hd); (try simp only [if_false] at hd); (try simp only [and_true] at hd); (try simp only [true_and] at hd); simp [yielded, hd]; done)); (focus (intro u w1 hw hd; (try simp only [depH] at hd); (try simp only [ext] at hd); (try simp only [extU] at hd); (try simp only [Nat.reduceAdd] at hd); (try simp only [Nat.reduceEqDiff] at hd); (try simp only [reduceIte] at hd); (try simp only [if_true] at hd); (try simp only [if_false] at hd); (try simp only [and_true] at hd); (try simp only [true_and] at hd); have hc' := hw.cell; go_simp; exact rfl))) | ((with_reducible refine flow_alloc (t := ?_) (zs := ?_) ?_ ?_ ?_ ?_); rotate_left 2; (focus (with_reducible rfl)); (focus rfl); (focus (intro u w1; go_simp; exact rfl)))))
          (try clear hc hf h); intro u w' h ha hdi; replace h := h.ins; (try simp only [World.size_alloc] at h); (try dsimp only at ha); (repeat rw [World.size_alloc] at ha); (try simp only [allH] at ha); (try simp only [ext] at ha); (try simp only [extU] at ha); (try simp only [Nat.reduceAdd] at ha); (try simp only [Nat.reduceEqDiff] at ha); (try simp only [reduceIte] at ha); (try simp only [if_true] at ha); (try simp only [if_false] at ha); (try simp only [and_true] at ha); (try simp only [true_and] at ha); have hc := h.cell; have hf := h.frozen
          (try obtain ha := ha); (try dsimp only);  simp only [ha]; clear ha hdi 
          have hbel2 := hbel.trans (h.bel.mono hbel.size)
          clear hc hf h
          go_wp2_with fail
          exact ⟨⟨j + 1, by omega, by go_num, hbel2, HR2⟩, by simp [RowKit.intOf]; omega⟩
        · rw [show (!decide (e1 = e2)) = true by simp [heq]] at hneq
          have hr2 : r = false := by rw [hr]; simp [heq]
          subst hr2
          clear hr heq he1 he2 hz1 hz2 hf1 hf2
          go_upto_region 6 with fail
          have h := In.self wr
          have hc := h.cell
          refine wp_region_flow 8 (by kernel_rfl) (by kernel_rfl) (fun _ _ d _ _ h => by cases d <;> exact h) ?_; simp only [List.take_succ_cons, List.take_zero, List.drop_succ_cons, List.drop_zero]; simp only [putAll, Act.put, List.setIfInBounds_toArray, List.set]; (try simp only [Nat.reduceAdd]); (try simp only [Nat.zero_add]); (repeat (first | ((with_reducible refine flow_float (v := ?_) ?_ ?_ ?_); rotate_left 1; (focus (with_reducible rfl)); (focus (intro u w1 hw hd w2; (try simp only [depH] at hd); (try simp only [ext] at hd); (try simp only [extU] at hd); (try simp only [Nat.reduceAdd] at hd); (try simp only [Nat.reduceEqDiff] at hd); (try simp only [reduceIte] at hd); (try simp only [if_true] at hd); (try simp only [if_false] at hd); (try simp only [and_true] at hd); (try simp only [true_and] at hd); go_simp; exact rfl))) | ((with_reducible refine flow_pure0 (v := ?_) ?_ ?_ ?_ ?_); rotate_left 1; (focus (with_reducible rfl)); (focus rfl); (focus (intro u w1 hw hd; (try simp only [depH] at hd); (try simp only [ext] at hd); (try simp only [extU] at hd); (try simp only [Nat.reduceAdd] at hd); (try simp only [Nat.reduceEqDiff] at hd); (try simp only [reduceIte] at hd); (try simp only [if_true] at hd); (try simp only [if_false] at hd); (try simp only [and_true] at hd); (try simp only [true_and] at hd); have hc' := hw.cell; go_simp; exact rfl))) | ((with_reducible refine flow_skipg (j := ?_) (b := ?_) ?_ ?_ ?_); rotate_left 2; (focus (with_reducible rfl)); (focus (intro u w1 hw hd; (try simp only [depH] at hd); (try simp only [ext] at hd); (try simp only [extU] at hd); (try simp only [Nat.reduceAdd] at hd); (try simp only [Nat.reduceEqDiff] at hd); (try simp only [reduceIte] at hd); (try simp only [if_true] at hd); (try simp only [if_false] at hd); (try simp only [and_true] at hd); (try simp only [true_and] at hd); simp [yielded, hd]; done))) | ((with_reducible refine flow_pureg (v := ?_) (j := ?_) (b := ?_) ?_ ?_ ?_ ?_); rotate_left 3; (focus (with_reducible rfl)); (focus (intro u w1 hw hd; (try simp only [depH] at hd); (try simp only [ext] at hd); (try simp only [extU] at hd); (try simp only [Nat.reduceAdd] at hd); (try simp only [Nat.reduceEqDiff] at hd); (try simp only [reduceIte] at hd); (try simp only [if_true] at hd); (try simp only [if_false] at hd); (try simp only [and_true] at hd); (try simp only [true_and] at hd); simp [yielded, hd]; done)); (focus (intro u w1 hw hd; (try simp only [depH] at hd); (try simp only [ext] at hd); (try simp only [extU] at hd); (try simp only [Nat.reduceAdd] at hd); (try simp only [Nat.reduceEqDiff] at hd); (try simp only [reduceIte] at hd); (try simp only [if_true] at hd); (try simp only [if_false] at hd); (try simp only [and_true] at hd); (try simp only [true_and] at hd); have hc' := hw.cell; go_simp; exact rfl))) | ((with_reducible refine flow_alloc (t := ?_) (zs := ?_) ?_ ?_ ?_ ?_); rotate_left 2; (focus (with_reducible rfl)); (focus rfl); (focus (intro u w1; go_simp; exact rfl)))))
          (try clear hc hf h); intro u w' h ha hdi; replace h := h.ins; (try simp only [World.size_alloc] at h); (try dsimp only at ha); (repeat rw [World.size_alloc] at ha); (try simp only [allH] at ha); (try simp only [ext] at ha); (try simp only [extU] at ha); (try simp only [Nat.reduceAdd] at ha); (try simp only [Nat.reduceEqDiff] at ha); (try simp only [reduceIte] at ha); (try simp only [if_true] at ha); (try simp only [if_false] at ha); (try simp only [and_true] at ha); (try simp only [true_and] at ha); have hc := h.cell; have hf := h.frozen
          (try obtain ha := ha); (try dsimp only);  simp only [ha]; clear ha hdi 
          have hbel2 := hbel.trans (h.bel.mono hbel.size)
          clear hc hf h
          go_wp2_with fail
          go_ret
          exact ⟨rfl, hbel2⟩
      · have hr := HR.out
        rw [List.drop_eq_nil_of_le (by rw [← HL.out]; omega), List.drop_eq_nil_of_le (by rw [← HM.out, ← HLM.out]; omega)] at hr
        have hr2 : r = true := by rw [hr]; rfl
        subst hr2
        have hjI : ¬ (j : Int) < L := by omega
        clear hr HR
        go_wp2_with fail
        go_ret
        exact ⟨rfl, hbel⟩
  · have hne : ((L : Int) != M) = true := by
      have : ¬ (L : Int) = M := by omega
      simpa using this
    rw [show decide (es1 = es2) = false from decide_eq_false fun e => hLM (by rw [hL, hM, e])]
    clear hL hM hLM
    go_enter Tryz.func81, Tryz.ntmps81
    go_wp2_with fail
    go_ret
    exact ⟨rfl, Below.refl _ _⟩
end Gus
end
section
/- sparses.Same, sparses.Symmetric. -/
namespace Gus
open Go Go.RowKit Go.Proofs
def RwG (w : World) (a : Option Addr) (rows : List (List EntI)) : Prop := ∀ i, i < rows.length → ∃ b off x, a = some ⟨b, off, none⟩ ∧ b < w.heap.size ∧ w.cell? ⟨b, off + i, none⟩ = some x ∧ RowG w x (rows.getD i [])
theorem same1_any (w : World) (v1 v2 : Value) (es1 es2 : List EntI) (h1 : RowG w v1 es1) (h2 : RowG w v2 es2) (hl : es1.length ≤ 4096) :
    Calls Tryz.prog 80 #[v1, v2] w fun e w' => e = .returned (.bool (decide (es1 = es2))) ∧ Below w.heap.size w w' := by
  have h := equalE_any w v1 v2 es1 es2 h1 h2 hl
  obtain ⟨r, hr⟩ : ∃ r, r = decide (es1 = es2) := ⟨_, rfl⟩
  rw [← hr] at h ⊢
  clear hr h1 h2
  go_enter Tryz.func80, Tryz.ntmps80
  go_wp2_with fail
  ((with_reducible refine h.mono ?_))
  rintro e w' ⟨rfl, hb⟩
  clear h
  go_wp2_with fail
  go_ret
  exact ⟨rfl, hb⟩
set_option maxRecDepth 100000 in
set_option maxHeartbeats 2000000 in
theorem equalF_any (w : World) (a1 a2 : Option Addr) (c1 c2 : Nat) (rows1 rows2 : List (List EntI)) (h1 : RwG w a1 rows1) (h2 : RwG w a2 rows2) (hr : rows1.length ≤ 4096) (hl : ∀ i, (rows1.getD i []).length ≤ 4096) :
    Calls Tryz.prog 79 #[.slice a1 rows1.length c1, .slice a2 rows2.length c2, .func (.func 80) #[] #[]] w fun e w' => e = .returned (.bool (decide (rows1 = rows2))) ∧ Below w.heap.size w w' := by
  have eg : ∀ args w, (callFunc 80 args).run Tryz.prog w = .ok (.enter 80 args) w := enters_of Tryz.func80 (by kernel_rfl) rfl
  obtain ⟨L, hL⟩ : ∃ L, L = rows1.length := ⟨_, rfl⟩
  obtain ⟨M, hM⟩ : ∃ M, M = rows2.length := ⟨_, rfl⟩
  unfold RwG at h1 h2
  rw [← hL] at hr h1 ⊢
  rw [← hM] at h2 ⊢
  by_cases hLM : L = M
  · have hne : ((L : Int) != M) = false := by simp [hLM]
    obtain ⟨r, hrr⟩ : ∃ r, r = decide (rows1 = rows2) := ⟨_, rfl⟩
    rw [← hrr]
    have HR : Hid (r = decide (rows1.drop 0 = rows2.drop 0)) := Lib.hid hrr
    have H1 := Lib.hid h1
    have H2 := Lib.hid h2
    have HL := Lib.hid hL
    have HM := Lib.hid hM
    have HLM := Lib.hid hLM
    have HLL := Lib.hid hl
    clear hL hM hLM hrr h1 h2 hl
    go_enter Tryz.func79, Tryz.ntmps79
    go_wp2_with fail
    go_loopw [17] (fun v17 wr => ∃ j : Nat, j ≤ L ∧ v17 = .int .i64 j ∧ Below w.heap.size w wr ∧ Hid (r = decide (rows1.drop j = rows2.drop j))) (fun v17 _ => L - (RowKit.intOf v17).toNat)
    case atStart => exact ⟨0, Nat.zero_le _, rfl, Below.refl _ _, HR⟩
    case round =>
      clear HR
      obtain ⟨j, hj, rfl, hbel, HR⟩ := hrel
      by_cases hjL : j < L
      · have hd1 := drop_getD rows1 [] (show j < rows1.length by rw [← HL.out]; exact hjL)
        have hd2 := drop_getD rows2 [] (show j < rows2.length by rw [← HM.out, ← HLM.out]; exact hjL)
        obtain ⟨b1, o1, x1, rfl, hb1, hc1, hx1⟩ := H1.out j hjL
        obtain ⟨b2, o2, x2, rfl, hb2, hc2, hx2⟩ := H2.out j (by rw [← HLM.out]; exact hjL)
        rw [← hbel.cell (p := ⟨b1, o1 + j, none⟩) hb1] at hc1
        rw [← hbel.cell (p := ⟨b2, o2 + j, none⟩) hb2] at hc2
        have hbw1 : b1 < wr.heap.size := Nat.lt_of_lt_of_le hb1 hbel.size
        have hbw2 : b2 < wr.heap.size := Nat.lt_of_lt_of_le hb2 hbel.size
        have hs := same1_any wr x1 x2 _ _ (hx1.call hbel) (hx2.call hbel) (HLL.out j)
        have hrr := HR.out
        rw [hd1, hd2] at hrr
        obtain ⟨e1, he1⟩ : ∃ e, e = rows1.getD j [] := ⟨_, rfl⟩
        obtain ⟨e2, he2⟩ : ∃ e, e = rows2.getD j [] := ⟨_, rfl⟩
        rw [← he1, ← he2] at hrr hs
        obtain ⟨xa1, xn1, xk1, hxs1⟩ : ∃ a n k, x1 = .slice a n k := by obtain ⟨_, _, h, _⟩ := hx1; exact ⟨_, _, _, h⟩
        obtain ⟨xa2, xn2, xk2, hxs2⟩ : ∃ a n k, x2 = .slice a n k := by obtain ⟨_, _, h, _⟩ := hx2; exact ⟨_, _, _, h⟩
        subst hxs1 hxs2
        have hjI : (j : Int) < L := by omega
        have hjM : (j : Int) < M := by have := HLM.out; omega
        have hj0 : (0 : Int) ≤ j := by omega
        have hjw : IntKind.i64.wrap ((j : Int) + 1) = ((j + 1 : Nat) : Int) := IntWalk.i64_in _ (by omega)
        clear hd1 hd2 HR hb1 hb2 hx1 hx2
        by_cases heq : e1 = e2
        · rw [decide_eq_true heq] at hs
          have hr2 : r = decide (rows1.drop (j + 1) = rows2.drop (j + 1)) := by rw [hrr, heq]; simp
          have HR2 := Lib.hid hr2
          clear hr2 hrr heq he1 he2
          go_wp2_with fail
          ((with_reducible refine hs.mono ?_))
          rintro e w2 ⟨rfl, hb⟩
          have hbel2 := hbel.trans (hb.mono hbel.size)
          clear hb hs hc1 hc2 hbw1 hbw2
          go_wp2_with fail
          exact ⟨⟨j + 1, by omega, by go_num, hbel2, HR2⟩, by simp [RowKit.intOf]; omega⟩
        · rw [decide_eq_false heq] at hs
          have hr2 : r = false := by rw [hrr]; simp [heq]
          subst hr2
          clear hrr heq he1 he2
          go_wp2_with fail
          ((with_reducible refine hs.mono ?_))
          rintro e w2 ⟨rfl, hb⟩
          have hbel2 := hbel.trans (hb.mono hbel.size)
          clear hb hs hc1 hc2 hbw1 hbw2
          go_wp2_with fail
          go_ret
          exact ⟨rfl, hbel2⟩
      · have hrr := HR.out
        rw [List.drop_eq_nil_of_le (by rw [← HL.out]; omega), List.drop_eq_nil_of_le (by rw [← HM.out, ← HLM.out]; omega)] at hrr
        have hr2 : r = true := by rw [hrr]; rfl
        subst hr2
        have hjI : ¬ (j : Int) < L := by omega
        clear hrr HR
        go_wp2_with fail
        go_ret
        exact ⟨rfl, hbel⟩
  · have hne : ((L : Int) != M) = true := by
      have : ¬ (L : Int) = M := by omega
      simpa using this
    rw [show decide (rows1 = rows2) = false from decide_eq_false fun e => hLM (by rw [hL, hM, e])]
    clear hL hM hLM h1 h2 hl hr
    go_enter Tryz.func79, Tryz.ntmps79
    go_wp2_with fail
    go_ret
    exact ⟨rfl, Below.refl _ _⟩
def sameS (n1 m1 : Int) (rows1 : List (List EntI)) (n2 m2 : Int) (rows2 : List (List EntI)) : Bool := decide (n1 = n2) && (decide (m1 = m2) && decide (rows1 = rows2))
set_option maxRecDepth 100000 in
set_option maxHeartbeats 2000000 in
theorem ssame_any (w : World) (v1 v2 : Value) (n1 m1 n2 m2 : Int) (rows1 rows2 : List (List EntI)) (h1 : SpG w v1 n1 m1 rows1) (h2 : SpG w v2 n2 m2 rows2) (hr : rows1.length ≤ 4096) (hl : ∀ i, (rows1.getD i []).length ≤ 4096) :
    Calls Tryz.prog 23 #[v1, v2] w fun e w' => e = .returned (.bool (sameS n1 m1 rows1 n2 m2 rows2)) ∧ Below w.heap.size w w' := by
  have hE : ∀ W a1 c1 a2 c2, Below w.heap.size w W → v1 = .agg #[.int .i64 n1, .int .i64 m1, .slice a1 rows1.length c1] → v2 = .agg #[.int .i64 n2, .int .i64 m2, .slice a2 rows2.length c2] → Calls Tryz.prog _ _ _ _ := fun W a1 c1 a2 c2 hb e1 e2 => equalF_any W a1 a2 c1 c2 rows1 rows2 (by
      obtain ⟨a, c, h, hx⟩ := h1.call hb
      rw [e1] at h
      simp only [Value.agg.injEq] at h
      have h3 := congrArg Array.toList h
      simp only [List.cons.injEq, Value.slice.injEq, true_and, and_true] at h3
      rw [h3.1]; exact hx) (by
      obtain ⟨a, c, h, hx⟩ := h2.call hb
      rw [e2] at h
      simp only [Value.agg.injEq] at h
      have h3 := congrArg Array.toList h
      simp only [List.cons.injEq, Value.slice.injEq, true_and, and_true] at h3
      rw [h3.1]; exact hx) hr hl
  obtain ⟨a1, c1, rfl, _⟩ := h1
  obtain ⟨a2, c2, rfl, _⟩ := h2
  have hE2 := fun W hb => hE W a1 c1 a2 c2 hb rfl rfl
  obtain ⟨L, hL⟩ : ∃ L, L = rows1.length := ⟨_, rfl⟩
  obtain ⟨M, hM⟩ : ∃ M, M = rows2.length := ⟨_, rfl⟩
  obtain ⟨r, hrr⟩ : ∃ r, r = decide (rows1 = rows2) := ⟨_, rfl⟩
  unfold sameS
  rw [← hL, ← hM, ← hrr] at hE2
  rw [← hL, ← hM, ← hrr]
  clear hE hL hM hrr hr hl
  by_cases hn : n1 = n2
  · rw [decide_eq_true hn, Bool.true_and]
    have hb1 : (n1 == n2) = true := by simpa using hn
    by_cases hm : m1 = m2
    · rw [decide_eq_true hm, Bool.true_and]
      have hb2 : (m1 == m2) = true := by simpa using hm
      clear hn hm
      go_enter Tryz.func23, Tryz.ntmps23
      go_wp2_with fail
      ((with_reducible refine (hE2 _ ?_).mono ?_))
      · exact (((In.self w).alloc _).alloc _).bel
      rintro e w2 ⟨rfl, hb⟩
      have hin := (((In.self w).alloc _).alloc _).call hb
      clear hb hE2
      go_wp2_with fail
      go_ret
      exact ⟨rfl, hin.bel⟩
    · rw [decide_eq_false hm, Bool.false_and]
      have hb2 : (m1 == m2) = false := by simpa using hm
      clear hn hm hE2
      go_enter Tryz.func23, Tryz.ntmps23
      go_wp2_with fail
      go_ret
      exact ⟨rfl, (((In.self w).alloc _).alloc _).bel⟩
  · rw [decide_eq_false hn, Bool.false_and]
    have hb1 : (n1 == n2) = false := by simpa using hn
    clear hn hE2
    go_enter Tryz.func23, Tryz.ntmps23
    go_wp2_with fail
    go_ret
    exact ⟨rfl, (((In.self w).alloc _).alloc _).bel⟩
end Gus
end
section
/- sparses.Symmetric, sparses.Count, a nil builder's matrix. -/
namespace Gus
open Go Go.RowKit Go.Proofs
def gRows (r c : Nat) (f : Nat → Nat → Rat) : List (List EntI) := (mrows r c f).map fun es => es.map cI
theorem gRows_length (r c : Nat) (f : Nat → Nat → Rat) : (gRows r c f).length = r := by unfold gRows; rw [List.length_map, mrows_length]
theorem gRows_row {r c : Nat} (f : Nat → Nat → Rat) (i : Nat) : ((gRows r c f).getD i []).length ≤ c := by
  unfold gRows
  by_cases hi : i < r
  · have e : ((mrows r c f).map fun es => es.map cI).getD i [] = ((mrows r c f).getD i []).map cI := by
      simp only [List.getD_eq_getElem?_getD, List.getElem?_map, List.getElem?_eq_getElem (show i < (mrows r c f).length by rw [mrows_length]; exact hi)]; rfl
    rw [e, List.length_map]
    exact mrows_row r c f i
  · rw [List.getD_eq_getElem?_getD, List.getElem?_eq_none (by rw [List.length_map, mrows_length]; omega)]; exact Nat.zero_le _
/-- whether two matrices are the same -/
def sameM (r c : Nat) (f : Nat → Nat → Rat) (r' c' : Nat) (g : Nat → Nat → Rat) : Bool := sameS r c (gRows r c f) r' c' (gRows r' c' g)
theorem ssame_ok {w : World} {v1 v2 : Value} {r c r' c' : Nat} {f g : Nat → Nat → Rat} (h1 : SpM w v1 r c f) (h2 : SpM w v2 r' c' g) (hr : r ≤ 2048) (hc : c ≤ 2048) :
    Calls Tryz.prog 23 #[v1, v2] w fun e w' => e = .returned (.bool (sameM r c f r' c' g)) ∧ Below w.heap.size w w' :=
  ssame_any w v1 v2 r c r' c' (gRows r c f) (gRows r' c' g) h1.g h2.g (by rw [gRows_length]; omega) (fun i => Nat.le_trans (gRows_row f i) (by omega))
set_option maxRecDepth 100000 in
set_option maxHeartbeats 2000000 in
theorem symm_any {j : Nat} (w : World) (v : Value) (r c : Nat) (f : Nat → Nat → Rat) (hS : SpM w v r c f) (hr : r ≤ 2048) (hc : c ≤ 2048) (hz : ∀ i k, SzK j (f i k)) (hcap : r * c * (j + 1) + 1 < 17592186044416) :
    Calls Tryz.prog 33 #[v] w fun e w' => e = .returned (.bool (sameM r c f c r fun k i => f i k)) ∧ Below w.heap.size w w' := by
  have ht := fun W (hb : Below w.heap.size w W) => turn_any W v r c f (hS.call hb) hr hc hz hcap
  obtain ⟨a, cap, rfl⟩ := hS.shape
  obtain ⟨X, hX⟩ : ∃ X, X = w.heap.size := ⟨_, rfl⟩
  have HX := Lib.hid hX
  have HS := Lib.hid hS
  clear hS hcap hz
  go_enter Tryz.func33, Tryz.ntmps33
  go_wp2_with fail
  ((with_reducible refine (ht _ ?_).mono ?_))
  · exact ((In.self w).alloc _).bel
  rintro e w2 ⟨tv, rfl, htv, hb⟩
  have hin := ((In.self w).alloc (.cells #[.int .i64 r, .int .i64 c, .slice a r cap] 63)).call hb
  have bx := (Bx.new_at w #[.int .i64 r, .int .i64 c, .slice a r cap] 63 hX).call hb
  have htm : SpM w2 tv c r (fun k i => f i k) := htv.m
  have hs2 := HS.out.call hin.bel
  obtain ⟨ta, tc, rfl⟩ := htm.shape
  rw [← hX] at hin ⊢
  clear hX htv hb ht
  go_upto_region 2 with fail
  have bt := Bx.new w2 #[.int .i64 c, .int .i64 r, .slice ta c tc] 63
  have bx3 := bx.alloc (.cells #[.int .i64 c, .int .i64 r, .slice ta c tc] 63)
  have hin3 := hin.alloc (.cells #[.int .i64 c, .int .i64 r, .slice ta c tc] 63)
  have hsm := ssame_ok (hs2.call ((Below.refl _ _).alloc (Nat.le_refl _) (.cells #[.int .i64 c, .int .i64 r, .slice ta c tc] 63))) (htm.call ((Below.refl _ _).alloc (Nat.le_refl _) (.cells #[.int .i64 c, .int .i64 r, .slice ta c tc] 63))) hr hc
  have x0 := bx3.c0
  have x1 := bx3.c1
  have x2 := bx3.c2
  have t0 := bt.c0
  have t1 := bt.c1
  have t2 := bt.c2
  have hxl := bx3.lt
  have htl := bt.lt
  clear bx hin hs2 htm
  generalize w2.alloc (.cells #[.int .i64 c, .int .i64 r, .slice ta c tc] 63) = W3 at *
  go_wp2_with fail
  ((with_reducible refine hsm.mono ?_))
  rintro e w4 ⟨rfl, hb4⟩
  have hin4 := hin3.call hb4
  clear hsm hb4 x0 x1 x2 t0 t1 t2
  go_wp2_with fail
  go_ret
  exact ⟨rfl, by rw [← HX.out]; exact hin4.bel⟩
end Gus
end
section
/- sparses.Of. -/
namespace Gus
open Go Go.RowKit Go.Proofs
abbrev Itm := Int × Int × Rat
def ics (x : Itm) : List Value := .int .i64 x.1 :: .int .i64 x.2.1 :: fcs x.2.2
/-- a slice of items as it is read -/
def ItsAt (w : World) (a : Option Addr) (its : List Itm) : Prop := ∀ i, i < its.length → ∃ b off, a = some ⟨b, off, none⟩ ∧ b < w.heap.size ∧ ∀ j, j < 7 → w.cell? ⟨b, off + i * 7 + j, none⟩ = (ics (its.getD i (0, 0, 0)))[j]?
theorem ItsAt.call {w w' : World} {a : Option Addr} {its : List Itm} (h : ItsAt w a its) (hb : Below w.heap.size w w') : ItsAt w' a its := fun i hi => by
  obtain ⟨b, off, h1, h2, h3⟩ := h i hi
  exact ⟨b, off, h1, Nat.lt_of_lt_of_le h2 hb.size, fun j hj => by rw [hb.cell (p := ⟨b, off + i * 7 + j, none⟩) h2]; exact h3 j hj⟩
abbrev zeroSp : Value := .agg #[.int .i64 0, .int .i64 0, .slice none 0 0]
theorem SpOwn.mono {w : World} {lo lo' : Nat} {v : Value} {r c : Nat} {Ls : Nat → List Ent} (h : SpOwn w lo v r c Ls) (hl : lo' ≤ lo) : SpOwn w lo' v r c Ls := by
  obtain ⟨R, vs, h1, h2, h3⟩ := h
  exact ⟨R, vs, h1, by omega, h3⟩
theorem foldA_snoc (f : Nat → Nat → Rat) (L : List (Nat × Nat × Rat)) (x : Nat × Nat × Rat) : foldA f (L ++ [x]) = addF (foldA f L) x := by
  unfold foldA; rw [List.foldl_append]; rfl
theorem take_getD {α : Type} (l : List α) (d : α) {i : Nat} (hi : i < l.length) : l.take (i + 1) = l.take i ++ [l.getD i d] := by
  rw [List.take_succ_eq_append_getElem hi, List.getD_eq_getElem?_getD, List.getElem?_eq_getElem hi]; rfl
end Gus
end
section
/- The laws' matrices: (gussetlaw13.M).Of; a dense matrix as it is read. -/
namespace Gus
open Go Go.RowKit Go.Proofs
theorem VecAt.own {w : World} {base : Nat} {e : TypeId} {v : Value} {qs : List Rat} (h : w.ownsRow base e 5 v qs.length (fcl qs)) : VecAt w v qs := by
  rcases h.2 with ⟨rfl, hn⟩ | ⟨g, cap, cur, rfl, hb, hg, hrest⟩
  · rw [List.length_eq_zero_iff] at hn
    subst hn
    exact VecAt.nil w none 0
  · refine ⟨some ⟨g, 0, none⟩, cap, rfl, fun i hi => ⟨g, 0, rfl, (Array.getElem?_eq_some_iff.1 hg).1, fun j hj => ?_⟩⟩
    have hk := fcl_at qs i j hi hj
    have hj5 : j < (fcs (qs.getD i 0)).length := hj
    rw [List.getElem?_eq_getElem hj5] at hk ⊢
    have := h.cells (g := g) rfl (i * 5 + j) _ hk
    rw [Nat.zero_add, ← this]
    unfold Addr.add
    split <;> simp_all
/-- a dense matrix: its sides, its elements row by row -/
def MatAt (w : World) (v : Value) (r c : Nat) (qs : List Rat) : Prop := ∃ x, v = .agg #[.int .i64 r, .int .i64 c, x] ∧ qs.length = r * c ∧ VecAt w x qs
theorem MatAt.call {w w' : World} {v : Value} {r c : Nat} {qs : List Rat} (h : MatAt w v r c qs) (hb : Below w.heap.size w w') : MatAt w' v r c qs :=
  let ⟨x, h1, h2, h3⟩ := h; ⟨x, h1, h2, h3.call hb⟩
theorem MatAt.shape {w : World} {v : Value} {r c : Nat} {qs : List Rat} (h : MatAt w v r c qs) : ∃ a cap, v = .agg #[.int .i64 r, .int .i64 c, .slice a qs.length cap] := by
  obtain ⟨x, rfl, _, h3⟩ := h
  obtain ⟨a, cap, rfl⟩ := h3.shape
  exact ⟨a, cap, rfl⟩
/-- a matrix's slice is not longer than its room -/
def CapOk (v : Value) : Prop := ∃ p q a n k, v = .agg #[p, q, .slice a n k] ∧ n ≤ k
set_option maxRecDepth 100000 in
set_option maxHeartbeats 2000000 in
theorem mof_cap (w : World) (R0 C0 : Nat) (hR : R0 < 256) (hC : C0 < 256) (a : Option Addr) (cap : Nat) (qs : List (Int × Int)) (hq : QAt w a qs) (hok : QOk qs) (hl : qs.length ≤ 1000) :
    Calls Tryz.prog 25 #[.agg #[.int .u8 R0, .int .u8 C0, .slice a qs.length cap]] w fun e w' => (∃ v, e = .returned v ∧ MatAt w' v (R0 % 7) (C0 % 7) (mList qs (R0 % 7 * (C0 % 7))) ∧ CapOk v) ∧ Below w.heap.size w w' := by
  have c1 := fun W (h : QAt W a qs) => some_any W R0 C0 a cap qs (R0 % 7) (C0 % 7) h hok (by omega) (by omega) hl
  obtain ⟨r, hr⟩ : ∃ r, r = R0 % 7 := ⟨_, rfl⟩
  obtain ⟨c, hc⟩ : ∃ c, c = C0 % 7 := ⟨_, rfl⟩
  rw [← hr, ← hc] at c1 ⊢
  have er : (R0 : Int) % 7 = (r : Int) := by rw [hr]; omega
  have ec : (C0 : Int) % 7 = (c : Int) := by rw [hc]; omega
  have ER := Lib.hid er
  have EC := Lib.hid ec
  clear er ec
  have HR := Lib.hid hr
  have HC := Lib.hid hc
  clear hr hc
  have HQ := Lib.hid hq
  have HL := Lib.hid hl
  clear hq hl
  obtain ⟨L, hL⟩ : ∃ L, L = qs.length := ⟨_, rfl⟩
  obtain ⟨X, hX⟩ : ∃ X, X = w.heap.size := ⟨_, rfl⟩
  have HX := Lib.hid hX
  go_enter Tryz.func25, Tryz.ntmps25
  go_wp2_with fail
  rw [ER.out, EC.out]
  have hq1 : QAt ((w.alloc (.cells #[.int .u8 R0, .int .u8 C0, .slice a qs.length cap] 74)).alloc (.cells #[.int .i64 0, .int .i64 0, .slice none 0 0] 78)) a qs := fun i hi => by
    obtain ⟨b, off, h1, h2, h3, h4⟩ := HQ.out i hi
    have hbw : Below w.heap.size w ((w.alloc (.cells #[.int .u8 R0, .int .u8 C0, .slice a qs.length cap] 74)).alloc (.cells #[.int .i64 0, .int .i64 0, .slice none 0 0] 78)) := ((Below.refl _ _).alloc (Nat.le_refl _) _).alloc (by simp) _
    exact ⟨b, off, h1, Nat.lt_of_lt_of_le h2 hbw.size, by rw [hbw.cell (p := ⟨b, _, none⟩) h2]; exact h3, by rw [hbw.cell (p := ⟨b, _, none⟩) h2]; exact h4⟩
  have br := Bx.new (w.alloc (.cells #[.int .u8 R0, .int .u8 C0, .slice a qs.length cap] 74)) #[.int .i64 0, .int .i64 0, .slice none 0 0] 78
  have hin : In X w ((w.alloc (.cells #[.int .u8 R0, .int .u8 C0, .slice a qs.length cap] 74)).alloc (.cells #[.int .i64 0, .int .i64 0, .slice none 0 0] 78)) := by
    rw [hX]; exact ((In.self w).alloc _).alloc _
  ((with_reducible refine (c1 _ hq1).mono ?_))
  rintro e w1 ⟨v, rfl, hv, hbel⟩
  obtain ⟨n, hn⟩ : ∃ n, n = r * c := ⟨_, rfl⟩
  obtain ⟨av, cv, rfl⟩ : ∃ av cv, v = .slice av n cv := by
    obtain ⟨av, cv, h⟩ := (VecAt.own (by rw [mList_length]; exact hv)).shape
    rw [mList_length, ← hn] at h
    exact ⟨av, cv, h⟩
  have HN := Lib.hid hn
  rw [← hn] at hv
  clear hn
  obtain ⟨b2, hb2⟩ : ∃ b2, b2 = w.heap.size + 1 := ⟨_, rfl⟩
  have hsz : (w.alloc (.cells #[.int .u8 R0, .int .u8 C0, .slice a qs.length cap] 74)).heap.size = b2 := by rw [hb2]; simp
  rw [hsz] at br
  have hlt : b2 < ((w.alloc (.cells #[.int .u8 R0, .int .u8 C0, .slice a qs.length cap] 74)).alloc (.cells #[.int .i64 0, .int .i64 0, .slice none 0 0] 78)).heap.size := by rw [hb2]; simp
  have br1 := br.call hbel
  have hin1 := hin.call hbel
  have hXb : X ≤ b2 := by omega
  have hv6 := ownsRow_setCell_low (a := ⟨b2, 2, none⟩) (ownsRow_setCell_low (a := ⟨b2, 1, none⟩) (ownsRow_setCell_low (a := ⟨b2, 0, none⟩) hv hlt (.int .i64 r)) hlt (.int .i64 c)) hlt (.slice av n cv)
  have br6 := ((br1.set 0 (.int .i64 r)).set 1 (.int .i64 c)).set 2 (.slice av n cv)
  have hin6 := ((hin1.setCell (p := ⟨b2, 0, none⟩) (by simpa using hXb) (.int .i64 r)).setCell (p := ⟨b2, 1, none⟩) (by simpa using hXb) (.int .i64 c)).setCell (p := ⟨b2, 2, none⟩) (by simpa using hXb) (.slice av n cv)
  have f0 := br1.frozen 0
  have f1 := br1.frozen 1
  have f2 := br1.frozen 2
  have d0 := br1.c0
  have d1 := br1.c1
  have d2 := br1.c2
  have hl1 := br1.lt
  have H1 := Lib.hid hv6
  have H2 := Lib.hid br6
  have H3 := Lib.hid hin6
  rw [← hb2]
  clear hb2
  clear hv6 br6 hin6 hv hbel br br1 hin hin1 hq1 c1 hlt hsz hX
  go_wp2_with fail
  have h1 := H1.out
  have h2 := H2.out
  have h3 := H3.out
  have e0 := h2.cell 0
  have e1 := h2.cell 1
  have e2 := h2.cell 2
  clear H1 H2 H3 f0 f1 f2 d0 d1 d2 hl1
  generalize ((w1.setCell ⟨b2, 0, none⟩ (.int .i64 r)).setCell ⟨b2, 1, none⟩ (.int .i64 c)).setCell ⟨b2, 2, none⟩ (.slice av n cv) = W6 at *
  have e0' : W6.cell? ⟨b2, 0, none⟩ = some (.int .i64 r) := e0
  have e1' : W6.cell? ⟨b2, 1, none⟩ = some (.int .i64 c) := e1
  have e2' : W6.cell? ⟨b2, 2, none⟩ = some (.slice av n cv) := e2
  have hva : VecAt W6 (.slice av n cv) (mList qs (r * c)) := by rw [← HN.out]; exact VecAt.own (by rw [mList_length]; exact h1)
  have hnk : n ≤ cv := by
    rcases h1.2 with ⟨h, _⟩ | ⟨g, cap, cur, h, _, _, h4, _⟩ <;> (simp only [Value.slice.injEq] at h; omega)
  have hbw : Below w.heap.size w W6 := by have := h3.bel; rw [HX.out] at this; exact this
  refine bodyPost_ret (v := .agg #[.int .i64 r, .int .i64 c, .slice av n cv]) ?_ rfl ⟨⟨_, rfl, ⟨_, rfl, mList_length _ _, hva⟩, ⟨_, _, _, _, _, rfl, hnk⟩⟩, hbw⟩
  simp [results, Tryz.results25, go_sem, e0', e1', e2']
end Gus
end
section
/- gussetlaw16.small on two matrices. -/
namespace Gus
open Go Go.RowKit Go.Proofs
set_option maxRecDepth 100000 in
set_option maxHeartbeats 2000000 in
theorem small_two (w : World) (b : Nat) (T : TypeId) (R0 C0 R1 C1 : Int) (a d : Option Addr) (la lb ca cb : Nat) (hla : la < 9223372036854775808) (hlb : lb < 9223372036854775808) (hB : Bx w b T [.int .u8 R0, .int .u8 C0, .slice a la ca, .int .u8 R1, .int .u8 C1, .slice d lb cb]) :
    Calls Tryz.prog 24 #[.slice (some ⟨b, 0, none⟩) 2 2] w fun e w' => e = .returned (.bool (decide (la ≤ 40) && decide (lb ≤ 40))) ∧ Below w.heap.size w w' := by
  have hlt := hB.lt
  have e2 : w.cell? ⟨b, 2, none⟩ = some (.slice a la ca) := hB.cell 2
  have e5 : w.cell? ⟨b, 5, none⟩ = some (.slice d lb cb) := hB.cell 5
  clear hB
  have hbel := Below.refl w.heap.size w
  by_cases h1 : la ≤ 40
  · by_cases h2 : lb ≤ 40
    · have k1 : ¬ ((40 : Int) < la) := by omega
      have k2 : ¬ ((40 : Int) < lb) := by omega
      go_enter Tryz.func24, Tryz.ntmps24
      go_wp2_with fail
      go_rounds 3
      exact bodyPost_ret (v := .bool true) (by simp [results, Tryz.results24, go_sem, *]) rfl ⟨by simp [h1, h2], hbel⟩
    · have k1 : ¬ ((40 : Int) < la) := by omega
      have k2 : (40 : Int) < lb := by omega
      go_enter Tryz.func24, Tryz.ntmps24
      go_wp2_with fail
      go_rounds 3
      exact bodyPost_ret (v := .bool false) (by simp [results, Tryz.results24, go_sem, *]) rfl ⟨by simp [h1, h2], hbel⟩
  · have k1 : (40 : Int) < la := by omega
    go_enter Tryz.func24, Tryz.ntmps24
    go_wp2_with fail
    go_rounds 3
    exact bodyPost_ret (v := .bool false) (by simp [results, Tryz.results24, go_sem, *]) rfl ⟨by simp [h1], hbel⟩
end Gus
end
section
/- sparses.OfDense. -/
namespace Gus
open Go Go.RowKit Go.Proofs
/-- the items of a dense matrix's first elements -/
def dItm (c : Nat) (qs : List Rat) (p : Nat) : List (Nat × Nat × Rat) := (List.range p).map fun t => (t / c, t % c, qs.getD t 0)
theorem dItm_succ (c : Nat) (qs : List Rat) (p : Nat) : dItm c qs (p + 1) = dItm c qs p ++ [(p / c, p % c, qs.getD p 0)] := by simp [dItm, List.range_succ]
set_option maxRecDepth 100000 in
set_option maxHeartbeats 4000000 in
theorem ofd_ok {j : Nat} (w : World) (r c : Nat) (a : Option Addr) (n cap : Nat) (qs : List Rat) (hv : VecAt w (.slice a n cap) qs) (hn : n = r * c) (hl : qs.length = n) (hr : r ≤ 2048) (hc : c ≤ 2048) (hz : ∀ i, SzK j (qs.getD i 0)) (hcap : n * (j + 1) + 1 < 17592186044416) (hk : checkM r c n = 0) :
    Calls Tryz.prog 26 #[.agg #[.int .i64 r, .int .i64 c, .slice a n cap]] w fun e w' => (∃ s, e = .returned (.tuple #[s, .int .i64 0]) ∧ SpN w' w.heap.size s r c (foldA (fun _ _ => 0) (dItm c qs n))) ∧ Below w.heap.size w w' := by
  have h0 := fun W => mcheck_any r c a n cap W
  rw [hk] at h0
  have h1 := begun_any r c
  obtain ⟨X, hX⟩ : ∃ X, X = w.heap.size := ⟨_, rfl⟩
  have HX := Lib.hid hX
  have HV := Lib.hid hv
  have HL := Lib.hid hl
  have HN := Lib.hid hn
  have HZ := Lib.hid hz
  have HC := Lib.hid hcap
  clear hv hl hn hz hcap hk
  go_enter Tryz.func26, Tryz.ntmps26
  go_wp2_with fail
  obtain ⟨Y, hY⟩ : ∃ Y, Y = (w.alloc (.cells #[.int .i64 r, .int .i64 c, .slice a n cap] 78)).heap.size := ⟨_, rfl⟩
  have hYX : Y = X + 1 := by rw [hY, hX]; simp
  have bm := (Bx.new_at w #[.int .i64 r, .int .i64 c, .slice a n cap] 78 hX).alloc (.cells #[.int .i64 0, .int .i64 0, .slice none 0 0] 63)
  have br := Bx.new_at (w.alloc (.cells #[.int .i64 r, .int .i64 c, .slice a n cap] 78)) #[.int .i64 0, .int .i64 0, .slice none 0 0] 63 hY
  have hin : In X w ((w.alloc (.cells #[.int .i64 r, .int .i64 c, .slice a n cap] 78)).alloc (.cells #[.int .i64 0, .int .i64 0, .slice none 0 0] 63)) := by rw [hX]; exact ((In.self w).alloc _).alloc _
  rw [← hX, ← hYX]
  have HYX := Lib.hid hYX
  clear hX hY hYX
  ((with_reducible refine (h0 _).mono ?_))
  rintro e w1 ⟨rfl, hbel⟩
  replace bm := bm.call hbel
  replace br := br.call hbel
  replace hin := hin.call hbel
  clear hbel h0
  have m0 := bm.c0
  have m1 := bm.c1
  have m2 := bm.c2
  have hml := bm.lt
  go_wp2_with fail
  ((with_reducible refine (h1 _).mono ?_))
  rintro e w2 ⟨rfl, hB, hbel⟩
  obtain ⟨b, hb⟩ : ∃ b, b = w1.heap.size := ⟨_, rfl⟩
  have hYb : Y < b := by have := br.lt; omega
  rw [← hb] at hB ⊢
  replace bm := bm.call hbel
  replace br := br.call hbel
  have hXb : X ≤ b := by have := hin.siz; omega
  replace hin := hin.call hbel
  clear hbel h1 hb m0 m1 m2 hml
  have m0 := bm.c0
  have m1 := bm.c1
  have m2 := bm.c2
  have hml := bm.lt
  have hn4 : n ≤ 4194304 := by rw [HN.out]; exact Nat.mul_le_mul hr hc
  have hn63 : (n : Int) < 9223372036854775807 := by omega
  go_wp2_with fail
  go_loopw [22] (fun v22 wr => ∃ p : Nat, p ≤ n ∧ v22 = .int .i64 p ∧ In X w wr ∧ Bx wr X 78 [.int .i64 r, .int .i64 c, .slice a n cap] ∧ Bx wr Y 63 [.int .i64 0, .int .i64 0, .slice none 0 0] ∧ BB wr (b + 1) b p r c (foldA (fun _ _ => 0) (dItm c qs p)) ∧ (∀ x y, SzK (1 + p * (j + 1)) (foldA (fun _ _ => 0) (dItm c qs p) x y))) (fun v22 _ => n - (RowKit.intOf v22).toNat)
  case atStart => exact ⟨0, Nat.zero_le _, rfl, hin, bm, br, hB, fun _ _ => (show SzK _ 0 from SzK.zero.mono (by omega))⟩
  case round =>
    clear hin bm br hB m0 m1 m2 hml
    obtain ⟨p, hp, rfl, hin, bm, br, hB, hsz⟩ := hrel
    by_cases hpn : p < n
    · obtain ⟨b2, off, cap2, A1, A2, A3, A4, A5, hva, hb2, hA, hA2, d0, d1, d2, d3, d4⟩ := HV.out.at (i := p) (by rw [HL.out]; exact hpn)
      obtain rfl : a = some ⟨b2, off, none⟩ := by injection hva
      rw [← HX.out] at hb2
      obtain ⟨q, hq⟩ : ∃ q, q = qs.getD p 0 := ⟨_, rfl⟩
      rw [← hq] at hA hA2
      replace d0 := (hin.cell b2 (off + p * 5) hb2).trans d0
      replace d1 := (hin.cell b2 (off + p * 5 + 1) hb2).trans d1
      replace d2 := (hin.cell b2 (off + p * 5 + 2) hb2).trans d2
      replace d3 := (hin.cell b2 (off + p * 5 + 3) hb2).trans d3
      replace d4 := (hin.cell b2 (off + p * 5 + 4) hb2).trans d4
      have hbw : b2 < wr.heap.size := by have := hin.siz; omega
      have hpI : (p : Int) < n := by omega
      have hp0 : (0 : Int) ≤ p := by omega
      have hpw : IntKind.i64.wrap ((p : Int) + 1) = ((p + 1 : Nat) : Int) := IntWalk.i64_in _ (by omega)
      have m0 := bm.c0
      have m1 := bm.c1
      have m2 := bm.c2
      have hml := bm.lt
      clear hva
      go_upto_region 8 with fail
      have hc0 : 0 < c := by
        rcases Nat.eq_zero_or_pos c with h | h
        · have := HN.out; rw [h, Nat.mul_zero] at this; omega
        · exact h
      have hcn : ¬ c = 0 := by omega
      obtain ⟨Z, hZ⟩ : ∃ Z, Z = wr.heap.size := ⟨_, rfl⟩
      have bz := Bx.new_at wr #[.int .u64 A1, .string A2, .bool A3, .int .u64 A4, .string A5] 56 hZ
      have hin2 := hin.alloc (.cells #[.int .u64 A1, .string A2, .bool A3, .int .u64 A4, .string A5] 56)
      have bm2 := bm.alloc (.cells #[.int .u64 A1, .string A2, .bool A3, .int .u64 A4, .string A5] 56)
      have br2 := br.alloc (.cells #[.int .u64 A1, .string A2, .bool A3, .int .u64 A4, .string A5] 56)
      have hB2 := hB.alloc (.cells #[.int .u64 A1, .string A2, .bool A3, .int .u64 A4, .string A5] 56)
      rw [← hZ]
      clear hZ hin bm br hB d0 d1 d2 d3 d4 m0 m1 m2 hml hbw
      generalize wr.alloc (.cells #[.int .u64 A1, .string A2, .bool A3, .int .u64 A4, .string A5] 56) = W1 at *
      have m1 := bm2.c1
      have hml := bm2.lt
      have x0 := bz.c0
      have x1 := bz.c1
      have x2 := bz.c2
      have x3 := bz.c3
      have x4 := bz.c4
      have hzl := bz.lt
      have hcc := hc
      refine wp_region_flow 10 (by kernel_rfl) (by kernel_rfl) (fun _ _ d _ _ h => by cases d <;> exact h) ?_; simp only [List.take_succ_cons, List.take_zero, List.drop_succ_cons, List.drop_zero]; simp only [putAll, Act.put, List.setIfInBounds_toArray, List.set]; (try simp only [Nat.reduceAdd]); (try simp only [Nat.zero_add]); (repeat (first | ((with_reducible refine flow_float (v := ?_) ?_ ?_ ?_); rotate_left 1; (focus (with_reducible rfl)); (focus (intro u w1 hw hd w2; (try simp only [depH] at hd); (try simp only [ext] at hd); (try simp only [extU] at hd); (try simp only [Nat.reduceAdd] at hd); (try simp only [Nat.reduceEqDiff] at hd); (try simp only [reduceIte] at hd); (try simp only [if_true] at hd); (try simp only [if_false] at hd); (try simp only [and_true] at hd); (try simp only [true_and] at hd); go_simp; exact rfl))) | ((with_reducible refine flow_pure0 (v := ?_) ?_ ?_ ?_ ?_); rotate_left 1; (focus (with_reducible rfl)); (focus rfl); (focus (intro u w1 hw hd; (try simp only [depH] at hd); (try simp only [ext] at hd); (try simp only [extU] at hd); (try simp only [Nat.reduceAdd] at hd); (try simp only [Nat.reduceEqDiff] at hd); (try simp only [reduceIte] at hd); (try simp only [if_true] at hd); (try simp only [if_false] at hd); (try simp only [and_true] at hd); (try simp only [true_and] at hd); have hc' := hw.cell; go_simp; exact rfl))) | ((with_reducible refine flow_skipg (j := ?_) (b := ?_) ?_ ?_ ?_); rotate_left 2; (focus (with_reducible rfl)); (focus (intro u w1 hw hd; (try simp only [depH] at hd); (try simp only [ext] at hd); (try simp only [extU] at hd); (try simp only [Nat.reduceAdd] at hd); (try simp only [Nat.reduceEqDiff] at hd); (try simp only [reduceIte] at hd); (try simp only [if_true] at hd); (try simp only [if_false] at hd); (try simp only [and_true] at hd); (try simp only [true_and] at hd); simp [yielded, hd]; done))) | ((with_reducible refine flow_pureg (v := ?_) (j := ?_) (b := ?_) ?_ ?_ ?_ ?_); rotate_left 3; (focus (with_reducible rfl)); (focus (intro u w1 hw hd; (try simp only [depH] at hd); (try simp only [ext] at hd); (try simp only [extU] at hd); (try simp only [Nat.reduceAdd] at hd); (try simp only [Nat.reduceEqDiff] at hd); (try simp only [reduceIte] at hd); (try simp only [if_true] at hd); (try simp only [if_false] at hd); (try simp only [and_true] at hd); (try simp only [true_and] at hd); simp [yielded, hd]; done)); (focus (intro u w1 hw hd; (try simp only [depH] at hd); (try simp only [ext] at hd); (try simp only [extU] at hd); (try simp only [Nat.reduceAdd] at hd); (try simp only [Nat.reduceEqDiff] at hd); (try simp only [reduceIte] at hd); (try simp only [if_true] at hd); (try simp only [if_false] at hd); (try simp only [and_true] at hd); (try simp only [true_and] at hd); have hc' := hw.cell; go_simp; exact rfl))) | ((with_reducible refine flow_alloc (t := ?_) (zs := ?_) ?_ ?_ ?_ ?_); rotate_left 2; (focus (with_reducible rfl)); (focus rfl); (focus (intro u w1; go_simp; exact rfl)))))
      (try clear hc hf h); intro u w' h ha hdi; replace h := h.ins; (try simp only [World.size_alloc] at h); (try dsimp only at ha); (repeat rw [World.size_alloc] at ha); (try simp only [allH] at ha); (try simp only [ext] at ha); (try simp only [extU] at ha); (try simp only [Nat.reduceAdd] at ha); (try simp only [Nat.reduceEqDiff] at ha); (try simp only [reduceIte] at ha); (try simp only [if_true] at ha); (try simp only [if_false] at ha); (try simp only [and_true] at ha); (try simp only [true_and] at ha); have hc := h.cell; have hf := h.frozen
      obtain ⟨y, hy⟩ : ∃ y, y = p / c := ⟨_, rfl⟩
      obtain ⟨z, hzz⟩ : ∃ z, z = p % c := ⟨_, rfl⟩
      have hyp : y ≤ p := by rw [hy]; exact Nat.div_le_self p c
      have hpc : IntKind.i64.wrap ((p : Int) / c) = (y : Int) := by
        rw [show (p : Int) / c = ((p / c : Nat) : Int) from rfl, ← hy]
        exact IntWalk.i64_in _ (by omega)
      have hpm : (p : Int).tmod c = (z : Int) := by rw [hzz]; rfl
      (try obtain ha := ha); (try dsimp only);  simp only [ha, hpc, hpm]; clear ha hdi hpc hpm
      have hi : y < r := by
        rw [hy, Nat.div_lt_iff_lt_mul hc0, ← HN.out]; exact hpn
      have hk' : z < c := by rw [hzz]; exact Nat.mod_lt _ hc0
      have hpj : (p + 1) * (j + 1) ≤ n * (j + 1) := Nat.mul_le_mul_right _ (by omega)
      have hcl := HC.out
      have hzx := HZ.out p
      rw [← hq] at hzx
      have ha := badd_in (s := 1 + p * (j + 1)) (j := j) w' (b + 1) b p r c _ y z q (hB2.call h.bel) hi hk' hr hcc (by simp only [maxLen]; omega) (by omega) (hsz _ _) hzx (by rw [Nat.add_mul, Nat.one_mul] at hpj; omega)
      have e1 : setF (foldA (fun _ _ => 0) (dItm c qs p)) y z (foldA (fun _ _ => 0) (dItm c qs p) y z + q) = foldA (fun _ _ => 0) (dItm c qs (p + 1)) := by
        rw [dItm_succ, foldA_snoc, ← hq, ← hy, ← hzz]; rfl
      have hsz2 := SzK_foldA (x := (y, z, q)) hsz hzx
      rw [show addF (foldA (fun _ _ => 0) (dItm c qs p)) (y, z, q) = foldA (fun _ _ => 0) (dItm c qs (p + 1)) from e1] at hsz2
      rw [e1, hA2] at ha
      have HZ2 := Lib.hid hsz2
      have hin3 := hin2.call h.bel
      have bm3 := bm2.call h.bel
      have br3 := br2.call h.bel
      clear hsz2 e1 hq hy hzz hyp hA hA2 hzx hsz hi hk' hpj hcl hB2 hin2 bm2 br2 bz m1 hml x0 x1 x2 x3 x4 hzl hc hf h
      go_wp2_with fail
      ((with_reducible refine ha.mono ?_))
      rintro e w4 ⟨rfl, hB4, hg⟩
      have hin4 := hin3.grown hg (by omega)
      have br4 := br3.grown hg (by simp; omega)
      have bm4 := bm3.grown hg (by have := HYX.out; simp; omega)
      clear ha hg hin3 br3 bm3
      go_wp2_with fail
      exact ⟨⟨p + 1, by omega, by go_num, hin4, bm4, br4, hB4, fun x y => (HZ2.out x y).mono (by rw [Nat.add_mul]; omega)⟩, by simp [RowKit.intOf]; omega⟩
    · have hpI : ¬ (p : Int) < n := by omega
      obtain rfl : p = n := by omega
      have hsp := bsparse_any wr (b + 1) b p r c _ hB hr hc
      have hXw := hin.siz
      obtain rfl := HYX.out
      clear hB hsz bm
      go_wp2_with fail
      ((with_reducible refine hsp.mono ?_))
      rintro e w5 ⟨v5, rfl, hv5, hb5⟩
      ((obtain ⟨R, h5⟩ : ∃ R, v5 = .agg #[(.int .i64 ((r : Nat) : Int)), (.int .i64 ((c : Nat) : Int)), (.slice (some ⟨R, 0, none⟩) (r) (r))] := by (obtain ⟨R, _, h, _⟩ := hv5; exact ⟨R, h⟩)); (have br5 := br.call hb5); (have hin5 := hin.call hb5); (have hXl := br.lt); (have hv7 := ((SpOwn.other (a := ⟨(X + 1), 0, none⟩) hv5 hXl (.int .i64 ((r : Nat) : Int))).other (a := ⟨(X + 1), 1, none⟩) hXl (.int .i64 ((c : Nat) : Int))).other (a := ⟨(X + 1), 2, none⟩) hXl (.slice (some ⟨R, 0, none⟩) (r) (r))); (have br6 := ((br5.set 0 (.int .i64 ((r : Nat) : Int))).set 1 (.int .i64 ((c : Nat) : Int))).set 2 (.slice (some ⟨R, 0, none⟩) (r) (r))); (have hin6 := ((hin5.setCell (p := ⟨(X + 1), 0, none⟩) (by first | (simp; done) | (simp; omega)) (.int .i64 ((r : Nat) : Int))).setCell (p := ⟨(X + 1), 1, none⟩) (by first | (simp; done) | (simp; omega)) (.int .i64 ((c : Nat) : Int))).setCell (p := ⟨(X + 1), 2, none⟩) (by first | (simp; done) | (simp; omega)) (.slice (some ⟨R, 0, none⟩) (r) (r))); (have f0 := br5.frozen 0); (have f1 := br5.frozen 1); (have f2 := br5.frozen 2); (have b0 := br5.c0); (have b1 := br5.c1); (have b2 := br5.c2); (have hl5 := br5.lt); (subst h5); (have H1 := Lib.hid hv7); (have H2 := Lib.hid br6); (have H3 := Lib.hid hin6); (clear hv7 br6 hin6 hv5 hb5 br br5 hin hin5); (go_wp2_with fail); (have h1 := H1.out); (have h2 := H2.out); (have h3 := H3.out); (clear H1 H2 H3 f0 f1 f2 b0 b1 b2 hl5); (generalize ((w5.setCell ⟨(X + 1), 0, none⟩ (.int .i64 ((r : Nat) : Int))).setCell ⟨(X + 1), 1, none⟩ (.int .i64 ((c : Nat) : Int))).setCell ⟨(X + 1), 2, none⟩ (.slice (some ⟨R, 0, none⟩) (r) (r)) = W6 at *); (have e0 : W6.cell? ⟨(X + 1), 0, none⟩ = some (.int .i64 ((r : Nat) : Int)) := h2.cell 0); (have e1 : W6.cell? ⟨(X + 1), 1, none⟩ = some (.int .i64 ((c : Nat) : Int)) := h2.cell 1); (have e2 : W6.cell? ⟨(X + 1), 2, none⟩ = some (.slice (some ⟨R, 0, none⟩) (r) (r)) := h2.cell 2); (have hfin := SpOwn.mono h1 (show w.heap.size ≤ (World.heap wr).size by rw [← HX.out]; omega)); (have hbelow : Below w.heap.size w W6 := h3.bel.mono (by have := HX.out; omega)); (refine bodyPost_ret (v := .tuple #[.agg #[(.int .i64 ((r : Nat) : Int)), (.int .i64 ((c : Nat) : Int)), (.slice (some ⟨R, 0, none⟩) (r) (r))], .int .i64 0]) ?_ rfl ⟨⟨_, rfl, hfin⟩, hbelow⟩); (simp [results, Tryz.results26, go_sem, e0, e1, e2]))
theorem dItm_at {r c : Nat} (qs : List Rat) {i k : Nat} (hi : i < r) (hk : k < c) : sumAt (dItm c qs (r * c)) i k = qs.getD (i * c + k) 0 := by
  have hc0 : 0 < c := by omega
  have h1 : (i * c + k) / c = i := by rw [Nat.mul_comm, Nat.mul_add_div hc0, Nat.div_eq_of_lt hk, Nat.add_zero]
  have h2 : (i * c + k) % c = k := by rw [Nat.mul_comm, Nat.mul_add_mod, Nat.mod_eq_of_lt hk]
  refine sumAt_once ?_ (List.mem_map.2 ⟨i * c + k, List.mem_range.2 ?_, ?_⟩)
  · unfold dItm
    rw [List.pairwise_map]
    have hn : (List.range (r * c)).Pairwise (· ≠ ·) := List.nodup_range
    refine hn.imp fun {a b} hab e => hab ?_
    have e1 : a / c = b / c := e.1
    have e2 : a % c = b % c := e.2
    rw [← Nat.div_add_mod a c, ← Nat.div_add_mod b c, e1, e2]
  · have := Nat.mul_le_mul_right c (show i + 1 ≤ r by omega)
    rw [Nat.add_mul, Nat.one_mul] at this
    omega
  · rw [h1, h2]
theorem checkM_ok {r c : Nat} (hr : r ≤ 2048) (hc : c ≤ 2048) : checkM r c (r * c : Nat) = 0 := by
  have h : sidesE r c = 0 := by unfold sidesE; rw [if_neg (by omega), if_neg (by omega)]
  unfold checkM
  rw [if_pos h, if_pos (by simp)]
/-- the values of a dense matrix -/
def mvals (c : Nat) (qs : List Rat) (i k : Nat) : Rat := qs.getD (i * c + k) 0
theorem ofd_any {j : Nat} (w : World) (v : Value) (r c : Nat) (qs : List Rat) (hM : MatAt w v r c qs) (hr : r ≤ 2048) (hc : c ≤ 2048) (hz : ∀ i, SzK j (qs.getD i 0)) (hcap : r * c * (j + 1) + 1 < 17592186044416) :
    Calls Tryz.prog 26 #[v] w fun e w' => (∃ s, e = .returned (.tuple #[s, .int .i64 0]) ∧ SpN w' w.heap.size s r c (mvals c qs)) ∧ Below w.heap.size w w' := by
  obtain ⟨x, rfl, hl, hv⟩ := hM
  obtain ⟨a, cap, rfl⟩ := hv.shape
  refine (ofd_ok w r c a qs.length cap qs hv hl rfl hr hc hz (by rw [hl]; exact hcap) ?_).mono ?_
  · rw [hl]; exact checkM_ok hr hc
  · rintro e w' ⟨⟨s, rfl, hs⟩, hb⟩
    refine ⟨⟨s, rfl, hs.congr fun i k hi hk => ?_⟩, hb⟩
    rw [foldA_at, hl, dItm_at qs hi hk, Rat.zero_add]; rfl
end Gus
end
section
/- Equality of rows of fractions and of dense matrices. -/
namespace Gus
open Go Go.RowKit Go.Proofs
set_option maxHeartbeats 2000000 in
theorem fracNeq_run (p q : Rat) (w : World) : (binOp .neq 56 (fracV p) (fracV q)).run Tryz.prog w = .ok (.bool (!decide (p = q))) w := by
  have h := frac_iff p q
  simp only [fracV]
  generalize lo p.num.natAbs = a1 at *
  generalize lo q.num.natAbs = b1 at *
  generalize bg p.num.natAbs = a2 at *
  generalize bg q.num.natAbs = b2 at *
  generalize decide (p.num < 0) = a3 at *
  generalize decide (q.num < 0) = b3 at *
  generalize lo (p.den - 1) = a4 at *
  generalize lo (q.den - 1) = b4 at *
  generalize bg (p.den - 1) = a5 at *
  generalize bg (q.den - 1) = b5 at *
  simp [go_sem]
  by_cases h1 : a1 = b1 <;> by_cases h2 : a2.toList = b2.toList <;> by_cases h3 : a3 = b3 <;> by_cases h4 : a4 = b4 <;> by_cases h5 : a5.toList = b5.toList <;> simp [h1, h2, h3, h4, h5] at h ⊢ <;> (try simp [h])
set_option maxRecDepth 100000 in
set_option maxHeartbeats 2000000 in
theorem equalR_any (w : World) (v1 v2 : Value) (es1 es2 : List Rat) (h1 : VecAt w v1 es1) (h2 : VecAt w v2 es2) (hl : es1.length ≤ 4096) :
    Calls Tryz.prog 84 #[v1, v2] w fun e w' => e = .returned (.bool (decide (es1 = es2))) ∧ Below w.heap.size w w' := by
  have H1 := Lib.hid h1
  have H2 := Lib.hid h2
  obtain ⟨a1, c1, rfl⟩ := h1.shape
  obtain ⟨a2, c2, rfl⟩ := h2.shape
  obtain ⟨L, hL⟩ : ∃ L, L = es1.length := ⟨_, rfl⟩
  obtain ⟨M, hM⟩ : ∃ M, M = es2.length := ⟨_, rfl⟩
  rw [← hL] at hl ⊢
  rw [← hM]
  by_cases hLM : L = M
  · have hne : ((L : Int) != M) = false := by simp [hLM]
    obtain ⟨r, hr⟩ : ∃ r, r = decide (es1 = es2) := ⟨_, rfl⟩
    rw [← hr]
    have HR : Hid (r = decide (es1.drop 0 = es2.drop 0)) := Lib.hid hr
    have HL := Lib.hid hL
    have HM := Lib.hid hM
    have HLM := Lib.hid hLM
    clear hL hM hLM hr
    go_enter Tryz.func84, Tryz.ntmps84
    go_wp2_with fail
    go_loopw [13] (fun v13 wr => ∃ j : Nat, j ≤ L ∧ v13 = .int .i64 j ∧ Below w.heap.size w wr ∧ Hid (r = decide (es1.drop j = es2.drop j))) (fun v13 _ => L - (RowKit.intOf v13).toNat)
    case atStart => exact ⟨0, Nat.zero_le _, rfl, Below.refl _ _, HR⟩
    case round =>
      clear HR
      obtain ⟨j, hj, rfl, hbel, HR⟩ := hrel
      by_cases hjL : j < L
      · have hd1 := drop_getD es1 0 (show j < es1.length by rw [← HL.out]; exact hjL)
        have hd2 := drop_getD es2 0 (show j < es2.length by rw [← HM.out, ← HLM.out]; exact hjL)
        obtain ⟨b1, o1, k1, A1, A2, A3, A4, A5, hv1, hb1, _, hf1, x0, x1, x2, x3, x4⟩ := (H1.out.call hbel).at (i := j) (by rw [← HL.out]; exact hjL)
        obtain ⟨b2, o2, k2, B1, B2, B3, B4, B5, hv2, hb2, _, hf2, y0, y1, y2, y3, y4⟩ := (H2.out.call hbel).at (i := j) (by rw [← HM.out, ← HLM.out]; exact hjL)
        simp only [Value.slice.injEq] at hv1 hv2
        obtain ⟨rfl, _, hk1⟩ := hv1
        obtain ⟨rfl, _, hk2⟩ := hv2
        subst hk1 hk2
        obtain ⟨e1, he1⟩ : ∃ e, e = es1.getD j 0 := ⟨_, rfl⟩
        obtain ⟨e2, he2⟩ : ∃ e, e = es2.getD j 0 := ⟨_, rfl⟩
        have hneq := fun W => fracNeq_run e1 e2 W
        have hr := HR.out
        rw [hd1, hd2, ← he1, ← he2] at hr
        rw [← he1] at hf1
        rw [← he2] at hf2
        rw [hf1, hf2] at hneq
        have hjI : (j : Int) < L := by omega
        have hjM : (j : Int) < M := by have := HLM.out; omega
        have hj0 : (0 : Int) ≤ j := by omega
        have hjw : IntKind.i64.wrap ((j : Int) + 1) = ((j + 1 : Nat) : Int) := IntWalk.i64_in _ (by omega)
        clear hd1 hd2 HR
        by_cases heq : e1 = e2
        · rw [show (!decide (e1 = e2)) = false by simp [heq]] at hneq
          have hr2 : r = decide (es1.drop (j + 1) = es2.drop (j + 1)) := by rw [hr, heq]; simp
          have HR2 := Lib.hid hr2
          clear hr2 hr heq he1 he2 hf1 hf2
          go_upto_region 6 with fail
          have h := In.self wr
          have hc := h.cell
          refine wp_region_flow 8 (by kernel_rfl) (by kernel_rfl) (fun _ _ d _ _ h => by cases d <;> exact h) ?_; simp only [List.take_succ_cons, List.take_zero, List.drop_succ_cons, List.drop_zero]; simp only [putAll, Act.put, List.setIfInBounds_toArray, List.set]; (try simp only [Nat.reduceAdd]); (try simp only [Nat.zero_add]); (repeat (first | ((with_reducible refine flow_float (v := ?_) ?_ ?_ ?_); rotate_left 1; (focus (with_reducible rfl)); (focus (intro u w1 hw hd w2; (try simp only [depH] at hd); (try simp only [ext] at hd); (try simp only [extU] at hd); (try simp only [Nat.reduceAdd] at hd); (try simp only [Nat.reduceEqDiff] at hd); (try simp only [reduceIte] at hd); (try simp only [if_true] at hd); (try simp only [if_false] at hd); (try simp only [and_true] at hd); (try simp only [true_and] at hd); go_simp; exact rfl))) | ((with_reducible refine flow_pure0 (v := ?_) ?_ ?_ ?_ ?_); rotate_left 1; (focus (with_reducible rfl)); (focus rfl); (focus (intro u w1 hw hd; (try simp only [depH] at hd); (try simp only [ext] at hd); (try simp only [extU] at hd); (try simp only [Nat.reduceAdd] at hd); (try simp only [Nat.reduceEqDiff] at hd); (try simp only [reduceIte] at hd); (try simp only [if_true] at hd); (try simp only [if_false] at hd); (try simp only [and_true] at hd); (try simp only [true_and] at hd); have hc' := hw.cell; go_simp; exact rfl))) | ((with_reducible refine flow_skipg (j := ?_) (b := ?_) ?_ ?_ ?_); rotate_left 2; (focus (with_reducible rfl)); (focus (intro u w1 hw hd; (try simp only [depH] at hd); (try simp only [ext] at hd); (try simp only [extU] at hd); (try simp only [Nat.reduceAdd] at hd); (try simp only [Nat.reduceEqDiff] at hd); (try simp only [reduceIte] at hd); (try simp only [if_true] at hd); (try simp only [if_false] at hd); (try simp only [and_true] at hd); (try simp only [true_and] at hd); simp [yielded, hd]; done))) | ((with_reducible refine flow_pureg (v := ?_) (j := ?_) (b := ?_) ?_ ?_ ?_ ?_); rotate_left 3; (focus (with_reducible rfl)); (focus (intro u w1 hw hd; (try simp only [depH] at hd); (try simp only [ext] at hd); (try simp only [extU] at hd); (try simp only [Nat.reduceAdd] at hd); (try simp only [Nat.reduceEqDiff] at hd); (try simp only [reduceIte] at hd); (try simp only [if_true] at hd); (try simp only [if_false] at hd); (try simp only [and_true] at hd); (try simp only [true_and] at hd); simp [yielded, hd]; done)); (focus (intro u w1 hw hd; (try simp only [depH] at hd); (try simp only [ext] at hd); (try simp only [extU] at hd); (try simp only [Nat.reduceAdd] at hd); (try simp only [Nat.reduceEqDiff] at hd); (try simp only [reduceIte] at hd); (try simp only [if_true] at hd); (try simp only [if_false] at hd); (try simp only [and_true] at hd); (try simp only [true_and] at hd); have hc' := hw.cell; go_simp; exact rfl))) | ((with_reducible refine flow_alloc (t := ?_) (zs := ?_) ?_ ?_ ?_ ?_); rotate_left 2; (focus (with_reducible rfl)); (focus rfl); (focus (intro u w1; go_simp; exact rfl)))))
          (try clear hc hf h); intro u w' h ha hdi; replace h := h.ins; (try simp only [World.size_alloc] at h); (try dsimp only at ha); (repeat rw [World.size_alloc] at ha); (try simp only [allH] at ha); (try simp only [ext] at ha); (try simp only [extU] at ha); (try simp only [Nat.reduceAdd] at ha); (try simp only [Nat.reduceEqDiff] at ha); (try simp only [reduceIte] at ha); (try simp only [if_true] at ha); (try simp only [if_false] at ha); (try simp only [and_true] at ha); (try simp only [true_and] at ha); have hc := h.cell; have hf := h.frozen
          (try obtain ha := ha); (try dsimp only);  simp only [ha]; clear ha hdi 
          have hbel2 := hbel.trans (h.bel.mono hbel.size)
          clear hc hf h
          go_wp2_with fail
          exact ⟨⟨j + 1, by omega, by go_num, hbel2, HR2⟩, by simp [RowKit.intOf]; omega⟩
        · rw [show (!decide (e1 = e2)) = true by simp [heq]] at hneq
          have hr2 : r = false := by rw [hr]; simp [heq]
          subst hr2
          clear hr heq he1 he2 hf1 hf2
          go_upto_region 6 with fail
          have h := In.self wr
          have hc := h.cell
          refine wp_region_flow 8 (by kernel_rfl) (by kernel_rfl) (fun _ _ d _ _ h => by cases d <;> exact h) ?_; simp only [List.take_succ_cons, List.take_zero, List.drop_succ_cons, List.drop_zero]; simp only [putAll, Act.put, List.setIfInBounds_toArray, List.set]; (try simp only [Nat.reduceAdd]); (try simp only [Nat.zero_add]); (repeat (first | ((with_reducible refine flow_float (v := ?_) ?_ ?_ ?_); rotate_left 1; (focus (with_reducible rfl)); (focus (intro u w1 hw hd w2; (try simp only [depH] at hd); (try simp only [ext] at hd); (try simp only [extU] at hd); (try simp only [Nat.reduceAdd] at hd); (try simp only [Nat.reduceEqDiff] at hd); (try simp only [reduceIte] at hd); (try simp only [if_true] at hd); (try simp only [if_false] at hd); (try simp only [and_true] at hd); (try simp only [true_and] at hd); go_simp; exact rfl))) | ((with_reducible refine flow_pure0 (v := ?_) ?_ ?_ ?_ ?_); rotate_left 1; (focus (with_reducible rfl)); (focus rfl); (focus (intro u w1 hw hd; (try simp only [depH] at hd); (try simp only [ext] at hd); (try simp only [extU] at hd); (try simp only [Nat.reduceAdd] at hd); (try simp only [Nat.reduceEqDiff] at hd); (try simp only [reduceIte] at hd); (try simp only [if_true] at hd); (try simp only [if_false] at hd); (try simp only [and_true] at hd); (try simp only [true_and] at hd); have hc' := hw.cell; go_simp; exact rfl))) | ((with_reducible refine flow_skipg (j := ?_) (b := ?_) ?_ ?_ ?_); rotate_left 2; (focus (with_reducible rfl)); (focus (intro u w1 hw hd; (try simp only [depH] at hd); (try simp only [ext] at hd); (try simp only [extU] at hd); (try simp only [Nat.reduceAdd] at hd); (try simp only [Nat.reduceEqDiff] at hd); (try simp only [reduceIte] at hd); (try simp only [if_true] at hd); (try simp only [if_false] at hd); (try simp only [and_true] at hd); (try simp only [true_and] at hd); simp [yielded, hd]; done))) | ((with_reducible refine flow_pureg (v := ?_) (j := ?_) (b := ?_) ?_ ?_ ?_ ?_); rotate_left 3; (focus (with_reducible rfl)); (focus (intro u w1 hw hd; (try simp only [depH] at hd); (try simp only [ext] at hd); (try simp only [extU] at hd); (try simp only [Nat.reduceAdd] at hd); (try simp only [Nat.reduceEqDiff] at hd); (try simp only [reduceIte] at hd); (try simp only [if_true] at hd); (try simp only [if_false] at hd); (try simp only [and_true] at hd); (try simp only [true_and] at hd); simp [yielded, hd]; done)); (focus (intro u w1 hw hd; (try simp only [depH] at hd); (try simp only [ext] at hd); (try simp only [extU] at hd); (try simp only [Nat.reduceAdd] at hd); (try simp only [Nat.reduceEqDiff] at hd); (try simp only [reduceIte] at hd); (try simp only [if_true] at hd); (try simp only [if_false] at hd); (try simp only [and_true] at hd); (try simp only [true_and] at hd); have hc' := hw.cell; go_simp; exact rfl))) | ((with_reducible refine flow_alloc (t := ?_) (zs := ?_) ?_ ?_ ?_ ?_); rotate_left 2; (focus (with_reducible rfl)); (focus rfl); (focus (intro u w1; go_simp; exact rfl)))))
          (try clear hc hf h); intro u w' h ha hdi; replace h := h.ins; (try simp only [World.size_alloc] at h); (try dsimp only at ha); (repeat rw [World.size_alloc] at ha); (try simp only [allH] at ha); (try simp only [ext] at ha); (try simp only [extU] at ha); (try simp only [Nat.reduceAdd] at ha); (try simp only [Nat.reduceEqDiff] at ha); (try simp only [reduceIte] at ha); (try simp only [if_true] at ha); (try simp only [if_false] at ha); (try simp only [and_true] at ha); (try simp only [true_and] at ha); have hc := h.cell; have hf := h.frozen
          (try obtain ha := ha); (try dsimp only);  simp only [ha]; clear ha hdi 
          have hbel2 := hbel.trans (h.bel.mono hbel.size)
          clear hc hf h
          go_wp2_with fail
          go_ret
          exact ⟨rfl, hbel2⟩
      · have hr := HR.out
        rw [List.drop_eq_nil_of_le (by rw [← HL.out]; omega), List.drop_eq_nil_of_le (by rw [← HM.out, ← HLM.out]; omega)] at hr
        have hr2 : r = true := by rw [hr]; rfl
        subst hr2
        have hjI : ¬ (j : Int) < L := by omega
        clear hr HR
        go_wp2_with fail
        go_ret
        exact ⟨rfl, hbel⟩
  · have hne : ((L : Int) != M) = true := by
      have : ¬ (L : Int) = M := by omega
      simpa using this
    rw [show decide (es1 = es2) = false from decide_eq_false fun e => hLM (by rw [hL, hM, e])]
    clear hL hM hLM
    go_enter Tryz.func84, Tryz.ntmps84
    go_wp2_with fail
    go_ret
    exact ⟨rfl, Below.refl _ _⟩
/-- whether two dense matrices are the same -/
def sameD (r c : Nat) (qs : List Rat) (r' c' : Nat) (qs' : List Rat) : Bool := decide (r = r') && (decide (c = c') && decide (qs = qs'))
set_option maxRecDepth 100000 in
set_option maxHeartbeats 2000000 in
theorem msame_any (w : World) (x y : Value) (r c r' c' : Nat) (qs qs' : List Rat) (h1 : MatAt w x r c qs) (h2 : MatAt w y r' c' qs') (hl : qs.length ≤ 4096) :
    Calls Tryz.prog 28 #[x, y] w fun e w' => e = .returned (.bool (sameD r c qs r' c' qs')) ∧ Below w.heap.size w w' := by
  obtain ⟨x, rfl, _, hx⟩ := h1
  obtain ⟨y, rfl, _, hy⟩ := h2
  have hE2 := fun W (hb : Below w.heap.size w W) => equalR_any W x y qs qs' (hx.call hb) (hy.call hb) hl
  obtain ⟨a1, k1, rfl⟩ := hx.shape
  obtain ⟨a2, k2, rfl⟩ := hy.shape
  obtain ⟨L, hL⟩ : ∃ L, L = qs.length := ⟨_, rfl⟩
  obtain ⟨M, hM⟩ : ∃ M, M = qs'.length := ⟨_, rfl⟩
  obtain ⟨t, hrr⟩ : ∃ t, t = decide (qs = qs') := ⟨_, rfl⟩
  unfold sameD
  rw [← hL, ← hM, ← hrr] at hE2
  rw [← hL, ← hM, ← hrr]
  clear hL hM hrr hl hx hy
  by_cases hn : r = r'
  · rw [decide_eq_true hn, Bool.true_and]
    have hb1 : ((r : Int) == (r' : Int)) = true := by rw [hn]; simp
    by_cases hm : c = c'
    · rw [decide_eq_true hm, Bool.true_and]
      have hb2 : ((c : Int) == (c' : Int)) = true := by rw [hm]; simp
      clear hn hm
      go_enter Tryz.func28, Tryz.ntmps28
      go_wp2_with fail
      ((with_reducible refine (hE2 _ ?_).mono ?_))
      · exact (((In.self w).alloc _).alloc _).bel
      rintro e w2 ⟨rfl, hb⟩
      have hin := (((In.self w).alloc _).alloc _).call hb
      clear hb hE2
      go_wp2_with fail
      go_ret
      exact ⟨rfl, hin.bel⟩
    · rw [decide_eq_false hm, Bool.false_and]
      have hb2 : ((c : Int) == (c' : Int)) = false := by
        have : ¬ (c : Int) = c' := by omega
        simpa using this
      clear hn hm hE2
      go_enter Tryz.func28, Tryz.ntmps28
      go_wp2_with fail
      go_ret
      exact ⟨rfl, (((In.self w).alloc _).alloc _).bel⟩
  · rw [decide_eq_false hn, Bool.false_and]
    have hb1 : ((r : Int) == (r' : Int)) = false := by
      have : ¬ (r : Int) = r' := by omega
      simpa using this
    clear hn hE2
    go_enter Tryz.func28, Tryz.ntmps28
    go_wp2_with fail
    go_ret
    exact ⟨rfl, (((In.self w).alloc _).alloc _).bel⟩
/-- the sparse forms agree just when the dense ones do -/
theorem rowOf_inj {f g : Nat → Rat} {M k : Nat} (h : rowOf f M = rowOf g M) (hk : k < M) : f k = g k := by
  by_cases hf : f k = 0
  · by_cases hg : g k = 0
    · rw [hf, hg]
    · have h1 : (k, g k) ∈ rowOf f M := by rw [h]; exact mem_rowOf.2 ⟨hk, hg, rfl⟩
      exact (mem_rowOf.1 h1).2.2.symm
  · have h1 : (k, f k) ∈ rowOf g M := by rw [← h]; exact mem_rowOf.2 ⟨hk, hf, rfl⟩
    exact (mem_rowOf.1 h1).2.2
theorem map_inj {α β : Type} {f : α → β} (hf : ∀ x y, f x = f y → x = y) : ∀ {l m : List α}, l.map f = m.map f → l = m
  | [], [], _ => rfl
  | [], _ :: _, h => by simp at h
  | _ :: _, [], h => by simp at h
  | x :: l, y :: m, h => by
    simp only [List.map_cons, List.cons.injEq] at h
    rw [hf x y h.1, map_inj hf h.2]
theorem cI_inj {x y : List Ent} (h : x.map cI = y.map cI) : x = y := by
  refine map_inj ?_ h
  rintro ⟨a, p⟩ ⟨b, q⟩ e
  simp only [cI, Prod.mk.injEq] at e
  exact Prod.ext (by omega) e.2
theorem gRows_inj {r c : Nat} {f g : Nat → Nat → Rat} (h : gRows r c f = gRows r c g) {i k : Nat} (hi : i < r) (hk : k < c) : f i k = g i k := by
  unfold gRows at h
  have h1 : mrows r c f = mrows r c g := map_inj (fun x y e => cI_inj e) h
  have h2 := congrArg (fun l => l.getD i []) h1
  simp only [mrows_getD c f hi, mrows_getD c g hi] at h2
  exact rowOf_inj h2 hk
theorem same_dense {r c r' c' : Nat} {qs qs' : List Rat} (h1 : qs.length = r * c) (h2 : qs'.length = r' * c') : sameM r c (mvals c qs) r' c' (mvals c' qs') = sameD r c qs r' c' qs' := by
  unfold sameM sameS sameD
  by_cases hr : r = r'
  · by_cases hc : c = c'
    · subst hr hc
      simp only [decide_true, Bool.true_and]
      rw [decide_eq_decide]
      constructor
      · intro h
        apply List.ext_getElem?
        intro t
        by_cases ht : t < r * c
        · have hc0 : 0 < c := by
            rcases Nat.eq_zero_or_pos c with e | e
            · rw [e, Nat.mul_zero] at ht; omega
            · exact e
          have := gRows_inj h (i := t / c) (k := t % c) (by rw [Nat.div_lt_iff_lt_mul hc0]; exact ht) (Nat.mod_lt _ hc0)
          unfold mvals at this
          rw [Nat.mul_comm, Nat.div_add_mod] at this
          rw [List.getD_eq_getElem?_getD, List.getD_eq_getElem?_getD, List.getElem?_eq_getElem (by omega), List.getElem?_eq_getElem (by omega)] at this
          rw [List.getElem?_eq_getElem (by omega), List.getElem?_eq_getElem (by omega)]
          exact congrArg some this
        · rw [List.getElem?_eq_none (by omega), List.getElem?_eq_none (by omega)]
      · rintro rfl; rfl
    · have : ¬ (c : Int) = c' := by omega
      simp [hc, this]
  · have : ¬ (r : Int) = r' := by omega
    simp [hr, this]
end Gus
end
section
/- The dense form's elements; the closure that stores an entry. -/
namespace Gus
open Go Go.RowKit Go.Proofs
/-- the elements of a dense form of which these entries are not yet stored -/
def den (r c : Nat) (f : Nat → Nat → Rat) (t : List (Nat × Nat × Rat)) : List Rat := (List.range (r * c)).map fun p => if t.any (fun x => x.1 * c + x.2.1 == p) then 0 else f (p / c) (p % c)
def dense (r c : Nat) (f : Nat → Nat → Rat) : List Rat := (List.range (r * c)).map fun p => f (p / c) (p % c)
theorem den_length (r c : Nat) (f : Nat → Nat → Rat) (t : List (Nat × Nat × Rat)) : (den r c f t).length = r * c := by simp [den]
theorem dense_length (r c : Nat) (f : Nat → Nat → Rat) : (dense r c f).length = r * c := by simp [dense]
theorem den_nil (r c : Nat) (f : Nat → Nat → Rat) : den r c f [] = dense r c f := by simp [den, dense]
theorem pos_of {c i k : Nat} (hk : k < c) : (i * c + k) / c = i ∧ (i * c + k) % c = k := by
  have hc0 : 0 < c := by omega
  exact ⟨by rw [Nat.mul_comm, Nat.mul_add_div hc0, Nat.div_eq_of_lt hk, Nat.add_zero], by rw [Nat.mul_comm, Nat.mul_add_mod, Nat.mod_eq_of_lt hk]⟩
theorem pos_lt {r c i k : Nat} (hi : i < r) (hk : k < c) : i * c + k < r * c := by
  have := Nat.mul_le_mul_right c (show i + 1 ≤ r by omega)
  rw [Nat.add_mul, Nat.one_mul] at this
  omega
theorem pos_split {r c p : Nat} (hp : p < r * c) : p / c < r ∧ p % c < c ∧ p / c * c + p % c = p := by
  have hc0 : 0 < c := by
    rcases Nat.eq_zero_or_pos c with e | e
    · rw [e, Nat.mul_zero] at hp; omega
    · exact e
  exact ⟨by rw [Nat.div_lt_iff_lt_mul hc0]; exact hp, Nat.mod_lt _ hc0, by rw [Nat.mul_comm]; exact Nat.div_add_mod p c⟩
theorem den_all (r c : Nat) (f : Nat → Nat → Rat) : den r c f (items r c f) = List.replicate (r * c) 0 := by
  apply List.ext_getElem
  · simp [den]
  · intro p h1 h2
    have hp : p < r * c := by simpa [den] using h1
    obtain ⟨a1, a2, a3⟩ := pos_split hp
    simp only [den, List.getElem_map, List.getElem_range, List.getElem_replicate]
    by_cases hz : f (p / c) (p % c) = 0
    · split
      · rfl
      · exact hz
    · rw [if_pos]
      exact List.any_eq_true.2 ⟨(p / c, p % c, f (p / c) (p % c)), mem_items.2 ⟨a1, a2, hz, rfl⟩, by simpa using a3⟩
theorem den_set {r c i k : Nat} {q : Rat} {f : Nat → Nat → Rat} {t pre : List (Nat × Nat × Rat)} (h : items r c f = pre ++ (i, k, q) :: t) : i < r ∧ k < c ∧ q = f i k ∧ (den r c f ((i, k, q) :: t)).set (i * c + k) q = den r c f t := by
  have hm : (i, k, q) ∈ items r c f := by rw [h]; exact List.mem_append.2 (.inr (.head _))
  obtain ⟨hi, hk, hz, hq⟩ := mem_items.1 hm
  refine ⟨hi, hk, hq, ?_⟩
  have ho := items_once r c f
  rw [h, List.pairwise_append, List.pairwise_cons] at ho
  have hnot := ho.2.1.1
  have ht : ∀ x ∈ t, x.1 < r ∧ x.2.1 < c := fun x hx => by
    have := mem_items.1 (show (x.1, x.2.1, x.2.2) ∈ items r c f by rw [h]; exact List.mem_append.2 (.inr (.tail _ hx)))
    exact ⟨this.1, this.2.1⟩
  apply List.ext_getElem
  · simp [den]
  · intro p h1 h2
    have hp : p < r * c := by simpa [den] using h2
    rw [List.getElem_set]
    simp only [den, List.getElem_map, List.getElem_range]
    by_cases he : i * c + k = p
    · rw [if_pos he, ← he, (pos_of (i := i) hk).1, (pos_of (i := i) hk).2, if_neg, hq]
      rw [List.any_eq_true]
      rintro ⟨x, hx, e⟩
      have e := of_decide_eq_true e
      have hxt := ht x hx
      have e1 := congrArg (· / c) e
      have e2 := congrArg (· % c) e
      simp only [(pos_of (i := i) hk).1, (pos_of (i := i) hk).2, (pos_of (i := x.1) hxt.2).1, (pos_of (i := x.1) hxt.2).2] at e1 e2
      exact hnot x hx ⟨e1.symm, e2.symm⟩
    · rw [if_neg he, List.any_cons]
      rw [show ((i * c + k == p) = false) by simpa using he, Bool.false_or]
theorem dense_mvals {r c : Nat} {qs : List Rat} (h : qs.length = r * c) : dense r c (mvals c qs) = qs := by
  apply List.ext_getElem
  · rw [dense_length, h]
  · intro p h1 h2
    have hp : p < r * c := by rw [← h]; exact h2
    obtain ⟨a1, a2, a3⟩ := pos_split hp
    simp only [dense, List.getElem_map, List.getElem_range, mvals, a3]
    rw [List.getD_eq_getElem?_getD, List.getElem?_eq_getElem h2]; rfl
theorem fcs_inj {q : Rat} {A1 A4 : Int} {A2 A5 : ByteArray} {A3 : Bool} (h : fcs q = [.int .u64 A1, .string A2, .bool A3, .int .u64 A4, .string A5]) : (lo q.num.natAbs : Int) = A1 ∧ bg q.num.natAbs = A2 ∧ decide (q.num < 0) = A3 ∧ (lo (q.den - 1) : Int) = A4 ∧ bg (q.den - 1) = A5 := by
  simpa [fcs] using h
theorem VBx.setA {w : World} {g : Nat} {qs : List Rat} (h : VBx w g qs) (i : Nat) (q : Rat) (hi : i < qs.length) {A1 A4 : Int} {A2 A5 : ByteArray} {A3 : Bool} (hq : fcs q = [.int .u64 A1, .string A2, .bool A3, .int .u64 A4, .string A5]) :
    VBx (((((w.setCell ⟨g, i * 5, none⟩ (.int .u64 A1)).setCell ⟨g, i * 5 + 1, none⟩ (.string A2)).setCell ⟨g, i * 5 + 2, none⟩ (.bool A3)).setCell ⟨g, i * 5 + 3, none⟩ (.int .u64 A4)).setCell ⟨g, i * 5 + 4, none⟩ (.string A5)) g (qs.set i q) := by
  obtain ⟨rfl, rfl, rfl, rfl, rfl⟩ := fcs_inj hq
  exact VBx.set h i q hi
theorem gr_putA (w : World) (g i : Nat) (v0 v1 v2 v3 v4 : Value) :
    w.grownBy (((((w.setCell ⟨g, i * 5, none⟩ v0).setCell ⟨g, i * 5 + 1, none⟩ v1).setCell ⟨g, i * 5 + 2, none⟩ v2).setCell ⟨g, i * 5 + 3, none⟩ v3).setCell ⟨g, i * 5 + 4, none⟩ v4) (some g) :=
  ((((gr_cell w ⟨g, i * 5, none⟩ _).trans (gr_cell _ ⟨g, i * 5 + 1, none⟩ _)).trans (gr_cell _ ⟨g, i * 5 + 2, none⟩ _)).trans (gr_cell _ ⟨g, i * 5 + 3, none⟩ _)).trans (gr_cell _ ⟨g, i * 5 + 4, none⟩ _)
set_option maxRecDepth 100000 in
set_option maxHeartbeats 2000000 in
theorem dns1_any (W : World) (g bm bs r c n i k cap : Nat) (a : Option Addr) (q : Rat) (qs : List Rat) (hm : Bx W bm 78 [.int .i64 r, .int .i64 c, .slice (some ⟨g, 0, none⟩) n n]) (hs : Bx W bs 63 [.int .i64 r, .int .i64 c, .slice a r cap]) (hg : VBx W g qs) (hn : qs.length = n) (hi : i * c + k < n) (hn4 : n ≤ 4194304) :
    Calls Tryz.prog 83 #[.int .i64 i, .int .i64 k, fracV q, .pointer (some ⟨bm, 0, none⟩), .pointer (some ⟨bs, 0, none⟩)] W fun e w' => e = .returned (.tuple #[]) ∧ VBx w' g (qs.set (i * c + k) q) ∧ W.grownBy w' (some g) := by
  obtain ⟨A1, A2, A3, A4, A5, hA, hA2⟩ : ∃ A1 A2 A3 A4 A5, fracV q = .agg #[.int .u64 A1, .string A2, .bool A3, .int .u64 A4, .string A5] ∧ fcs q = [.int .u64 A1, .string A2, .bool A3, .int .u64 A4, .string A5] := ⟨_, _, _, _, _, rfl, rfl⟩
  obtain ⟨t, ht⟩ : ∃ t, t = i * c + k := ⟨_, rfl⟩
  obtain ⟨d, hd⟩ : ∃ d, d = i * c := ⟨_, rfl⟩
  have hw1 : IntKind.i64.wrap ((i : Int) * c) = (d : Int) := by rw [hd, ← Int.natCast_mul]; exact IntWalk.i64_in _ (by omega)
  have hw2 : IntKind.i64.wrap ((d : Int) + k) = (t : Int) := by rw [ht, hd, ← Int.natCast_add]; exact IntWalk.i64_in _ (by omega)
  rw [← ht] at hi ⊢
  have htn : (t : Int) < n := by omega
  have ht0 : (0 : Int) ≤ t := by omega
  obtain ⟨o, ho⟩ : ∃ o : Obj, o = .cells #[.int .u64 A1, .string A2, .bool A3, .int .u64 A4, .string A5] 56 := ⟨_, rfl⟩
  have H3 := Lib.hid (Bx.alloc (hg.setA t q (by omega) hA2) o)
  have H4 := Lib.hid ((gr_putA W g t (.int .u64 A1) (.string A2) (.bool A3) (.int .u64 A4) (.string A5)).trans (World.grownBy_alloc _ o (some g)))
  rw [ho] at H3 H4
  obtain ⟨B1, B2, B3, B4, B5, _, c0, c1, c2, c3, c4, g0, g1, g2, g3, g4⟩ := VBx.cells hg (i := t) (by omega)
  have m0 := hm.c0
  have m1 := hm.c1
  have m2 := hm.c2
  have s0 := hs.c0
  have s1 := hs.c1
  have s2 := hs.c2
  have hml := hm.lt
  have hsl := hs.lt
  have hgl := hg.lt
  rw [hA]
  clear hm hs hg ht hd hA hA2 ho hn
  go_enter Tryz.func83, Tryz.ntmps83
  go_wp2_with fail
  go_end0
  exact ⟨rfl, H3.out, H4.out⟩
end Gus
end
section
/- sparses.Dense. -/
namespace Gus
open Go Go.RowKit Go.Proofs
theorem info_frac6 (L : Nat) (hL : L ≤ 4194304) (w : World) : (Instr.makeSlice 76 (.int .i64 (L : Int)) (.int .i64 (L : Int))).run Tryz.prog w =
    .ok (.slice (some ⟨w.heap.size, 0, none⟩) L L) (w.alloc (.cells (fcl (List.replicate L 0)).toArray 56)) := by
  obtain ⟨i0, hi, hz0, hz1, hz2⟩ := info_parts info_frac5
  have := run_make (P := Tryz.prog) w 76 56 i0 _ Tryz.underlying76 hi hz0 .i64 .i64 L L (by omega) (Int.le_refl _) (by rw [hz2]; omega) (by omega)
  rw [this]
  simp only [Int.toNat_natCast, hz1]
  rw [made_frac]
/-- the value of a new dense matrix of zeros -/
def NewD (X r c n : Nat) (fc : List Value) (x : Value) (w : World) : Prop := ∃ g, x = .agg #[.int .i64 r, .int .i64 c, .slice (some ⟨g, 0, none⟩) n n] ∧ X ≤ g ∧ Bx w g 56 fc
theorem stable_newD (X r c n : Nat) (fc : List Value) : Stable (NewD X r c n fc) := fun _ _ _ ⟨R, h1, h2, h3⟩ hs => ⟨R, h1, h2, h3.call hs⟩
set_option maxRecDepth 100000 in
set_option maxHeartbeats 4000000 in
theorem dense_ok (w : World) (v : Value) (r c : Nat) (f : Nat → Nat → Rat) (hS : SpM w v r c f) (hr : r ≤ 2048) (hc : c ≤ 2048) :
    Calls Tryz.prog 27 #[v] w fun e w' => (∃ d, e = .returned (.tuple #[d, .int .i64 0]) ∧ MatAt w' d r c (dense r c f)) ∧ Below w.heap.size w w' := by
  have hck := fun W (hb : Below w.heap.size w W) => scheck_ok (hS.call hb) hr hc
  obtain ⟨a, cap, rfl⟩ := hS.shape
  obtain ⟨X, hX⟩ : ∃ X, X = w.heap.size := ⟨_, rfl⟩
  have HX := Lib.hid hX
  have HS := Lib.hid hS
  obtain ⟨n, hn⟩ : ∃ n, n = r * c := ⟨_, rfl⟩
  have hn4 : n ≤ 4194304 := by rw [hn]; exact Nat.mul_le_mul hr hc
  have HN := Lib.hid hn
  have HMK := Lib.hid (info_frac6 n hn4)
  have hwm : IntKind.i64.wrap ((r : Int) * c) = (n : Int) := by rw [hn, ← Int.natCast_mul]; exact IntWalk.i64_in _ (by rw [← hn]; omega)
  obtain ⟨fc, hfc⟩ : ∃ fc, fc = fcl (List.replicate n 0) := ⟨_, rfl⟩
  have HF := Lib.hid hfc
  rw [← hfc] at HMK
  clear hS hn hfc
  go_enter Tryz.func27, Tryz.ntmps27
  go_wp2_with fail
  ((with_reducible refine (hck _ ?_).mono ?_))
  · exact (((In.self w).alloc _).alloc _).bel
  rintro e w2 ⟨rfl, hb⟩
  have hin := (((In.self w).alloc (.cells #[.int .i64 r, .int .i64 c, .slice a r cap] 63)).alloc (.cells #[.int .i64 0, .int .i64 0, .slice none 0 0] 78)).call hb
  have bx := ((Bx.new_at w #[.int .i64 r, .int .i64 c, .slice a r cap] 63 hX).alloc (.cells #[.int .i64 0, .int .i64 0, .slice none 0 0] 78)).call hb
  have bq := (Bx.new_at (w.alloc (.cells #[.int .i64 r, .int .i64 c, .slice a r cap] 63)) #[.int .i64 0, .int .i64 0, .slice none 0 0] 78 (n := X + 1) (by rw [World.size_alloc, hX])).call hb
  rw [← hX] at hin ⊢
  clear hX hck hb
  have x0 := bx.c0
  have x1 := bx.c1
  have x2 := bx.c2
  have hxl := bx.lt
  go_upto_region 4 with fail
  have h := In.self w2
  have hc' := h.cell
  refine wp_region_flow 12 (by kernel_rfl) (by kernel_rfl) (fun _ _ d _ _ h => by cases d <;> exact h) ?_; simp only [List.take_succ_cons, List.take_zero, List.drop_succ_cons, List.drop_zero]; simp only [putAll, Act.put, List.setIfInBounds_toArray, List.set]; (try simp only [Nat.reduceAdd]); (try simp only [Nat.zero_add]); (repeat (first | ((with_reducible refine flow_float (v := ?_) ?_ ?_ ?_); rotate_left 1; (focus (with_reducible rfl)); (focus (intro u w1 hw hd w2; (try simp only [depH] at hd); (try simp only [ext] at hd); (try simp only [extU] at hd); (try simp only [Nat.reduceAdd] at hd); (try simp only [Nat.reduceEqDiff] at hd); (try simp only [reduceIte] at hd); (try simp only [if_true] at hd); (try simp only [if_false] at hd); (try simp only [and_true] at hd); (try simp only [true_and] at hd); go_simp; exact rfl))) | ((with_reducible refine flow_pure0 (v := ?_) ?_ ?_ ?_ ?_); rotate_left 1; (focus (with_reducible rfl)); (focus rfl); (focus (intro u w1 hw hd; (try simp only [depH] at hd); (try simp only [ext] at hd); (try simp only [extU] at hd); (try simp only [Nat.reduceAdd] at hd); (try simp only [Nat.reduceEqDiff] at hd); (try simp only [reduceIte] at hd); (try simp only [if_true] at hd); (try simp only [if_false] at hd); (try simp only [and_true] at hd); (try simp only [true_and] at hd); have hc' := hw.cell; go_simp; exact rfl))) | ((with_reducible refine flow_skipg (j := ?_) (b := ?_) ?_ ?_ ?_); rotate_left 2; (focus (with_reducible rfl)); (focus (intro u w1 hw hd; (try simp only [depH] at hd); (try simp only [ext] at hd); (try simp only [extU] at hd); (try simp only [Nat.reduceAdd] at hd); (try simp only [Nat.reduceEqDiff] at hd); (try simp only [reduceIte] at hd); (try simp only [if_true] at hd); (try simp only [if_false] at hd); (try simp only [and_true] at hd); (try simp only [true_and] at hd); simp [yielded, hd]; done))) | ((with_reducible refine flow_pureg (v := ?_) (j := ?_) (b := ?_) ?_ ?_ ?_ ?_); rotate_left 3; (focus (with_reducible rfl)); (focus (intro u w1 hw hd; (try simp only [depH] at hd); (try simp only [ext] at hd); (try simp only [extU] at hd); (try simp only [Nat.reduceAdd] at hd); (try simp only [Nat.reduceEqDiff] at hd); (try simp only [reduceIte] at hd); (try simp only [if_true] at hd); (try simp only [if_false] at hd); (try simp only [and_true] at hd); (try simp only [true_and] at hd); simp [yielded, hd]; done)); (focus (intro u w1 hw hd; (try simp only [depH] at hd); (try simp only [ext] at hd); (try simp only [extU] at hd); (try simp only [Nat.reduceAdd] at hd); (try simp only [Nat.reduceEqDiff] at hd); (try simp only [reduceIte] at hd); (try simp only [if_true] at hd); (try simp only [if_false] at hd); (try simp only [and_true] at hd); (try simp only [true_and] at hd); have hc' := hw.cell; go_simp; exact rfl))) | ((with_reducible refine flow_alloc (t := ?_) (zs := ?_) ?_ ?_ ?_ ?_); rotate_left 2; (focus (with_reducible rfl)); (focus rfl); (focus (intro u w1; go_simp; exact rfl)))))
  (with_reducible refine flow_slice (t := 56) (zs := fc.toArray) (n := n) ?_ ?_ ?_ ?_); (focus (with_reducible rfl)); (focus rfl); (focus (intro u w1 hw hd; (try simp only [depH] at hd); (try simp only [ext] at hd); (try simp only [extU] at hd); (try simp only [Nat.reduceAdd] at hd); (try simp only [Nat.reduceEqDiff] at hd); (try simp only [reduceIte] at hd); (try simp only [if_true] at hd); (try simp only [if_false] at hd); (try simp only [and_true] at hd); (try simp only [true_and] at hd); go_simp; rw [HMK.out]; simp [Result.andThen]))
  (with_reducible refine flow_rel (Vi := NewD w2.heap.size r c n fc) false ?_ ?_ ?_ ?_ ?_ ?_)
  case refine_1 => rfl
  case refine_2 => rfl
  case refine_3 => exact stable_newD _ _ _ _ _
  case refine_4 => exact placed_false _
  case refine_5 =>
    intro u w1 hw hd
    (try simp only [depH] at hd); (try simp only [ext] at hd); (try simp only [extU] at hd); (try simp only [Nat.reduceAdd] at hd); (try simp only [Nat.reduceEqDiff] at hd); (try simp only [reduceIte] at hd); (try simp only [if_true] at hd); (try simp only [if_false] at hd); (try simp only [and_true] at hd); (try simp only [true_and] at hd)
    obtain ⟨e1, e2, R, e3, e4, e5⟩ := hd
    go_simp
    exact ⟨⟨⟨R, rfl, e4, e5⟩, fun h => by cases h⟩, St.refl _⟩
  (repeat (first | ((with_reducible refine flow_float (v := ?_) ?_ ?_ ?_); rotate_left 1; (focus (with_reducible rfl)); (focus (intro u w1 hw hd w2; (try simp only [depH] at hd); (try simp only [ext] at hd); (try simp only [extU] at hd); (try simp only [Nat.reduceAdd] at hd); (try simp only [Nat.reduceEqDiff] at hd); (try simp only [reduceIte] at hd); (try simp only [if_true] at hd); (try simp only [if_false] at hd); (try simp only [and_true] at hd); (try simp only [true_and] at hd); go_simp; exact rfl))) | ((with_reducible refine flow_pure0 (v := ?_) ?_ ?_ ?_ ?_); rotate_left 1; (focus (with_reducible rfl)); (focus rfl); (focus (intro u w1 hw hd; (try simp only [depH] at hd); (try simp only [ext] at hd); (try simp only [extU] at hd); (try simp only [Nat.reduceAdd] at hd); (try simp only [Nat.reduceEqDiff] at hd); (try simp only [reduceIte] at hd); (try simp only [if_true] at hd); (try simp only [if_false] at hd); (try simp only [and_true] at hd); (try simp only [true_and] at hd); have hc' := hw.cell; go_simp; exact rfl))) | ((with_reducible refine flow_skipg (j := ?_) (b := ?_) ?_ ?_ ?_); rotate_left 2; (focus (with_reducible rfl)); (focus (intro u w1 hw hd; (try simp only [depH] at hd); (try simp only [ext] at hd); (try simp only [extU] at hd); (try simp only [Nat.reduceAdd] at hd); (try simp only [Nat.reduceEqDiff] at hd); (try simp only [reduceIte] at hd); (try simp only [if_true] at hd); (try simp only [if_false] at hd); (try simp only [and_true] at hd); (try simp only [true_and] at hd); simp [yielded, hd]; done))) | ((with_reducible refine flow_pureg (v := ?_) (j := ?_) (b := ?_) ?_ ?_ ?_ ?_); rotate_left 3; (focus (with_reducible rfl)); (focus (intro u w1 hw hd; (try simp only [depH] at hd); (try simp only [ext] at hd); (try simp only [extU] at hd); (try simp only [Nat.reduceAdd] at hd); (try simp only [Nat.reduceEqDiff] at hd); (try simp only [reduceIte] at hd); (try simp only [if_true] at hd); (try simp only [if_false] at hd); (try simp only [and_true] at hd); (try simp only [true_and] at hd); simp [yielded, hd]; done)); (focus (intro u w1 hw hd; (try simp only [depH] at hd); (try simp only [ext] at hd); (try simp only [extU] at hd); (try simp only [Nat.reduceAdd] at hd); (try simp only [Nat.reduceEqDiff] at hd); (try simp only [reduceIte] at hd); (try simp only [if_true] at hd); (try simp only [if_false] at hd); (try simp only [and_true] at hd); (try simp only [true_and] at hd); have hc' := hw.cell; go_simp; exact rfl))) | ((with_reducible refine flow_alloc (t := ?_) (zs := ?_) ?_ ?_ ?_ ?_); rotate_left 2; (focus (with_reducible rfl)); (focus rfl); (focus (intro u w1; go_simp; exact rfl)))))
  have hcc := hc
  (try clear hc hf h); intro u w' h ha hdi; replace h := h.ins; (try simp only [World.size_alloc] at h); (try dsimp only at ha); (repeat rw [World.size_alloc] at ha); (try simp only [allH] at ha); (try simp only [ext] at ha); (try simp only [extU] at ha); (try simp only [Nat.reduceAdd] at ha); (try simp only [Nat.reduceEqDiff] at ha); (try simp only [reduceIte] at ha); (try simp only [if_true] at ha); (try simp only [if_false] at ha); (try simp only [and_true] at ha); (try simp only [true_and] at ha); have hc := h.cell; have hf := h.frozen
  obtain ⟨⟨⟨ha, R2, hu12, _, _⟩, g, hu13, hXg, bg⟩, S, hu14, hSX, bS⟩ := ha
  have hSg : S ≠ g := fun e => by
    subst e
    have e1 := bg
    have e2 := bS
    unfold Bx at e1 e2
    rw [e1] at e2
    simp at e2
  (try obtain ha := ha); (try dsimp only);  simp only [ha, hu12, hu13, hu14]; clear ha hdi hu12 hu13 hu14
  have hXS : X + 1 < S := by have := bq.lt; omega
  have hXG : X + 1 < g := by have := bq.lt; omega
  have bx1 := bx.call h.bel
  have bq1 := bq.call h.bel
  have hin1 := hin.call h.bel
  have f0 := bS.frozen 0
  have f1 := bS.frozen 1
  have f2 := bS.frozen 2
  have s0 := bS.c0
  have s1 := bS.c1
  have s2 := bS.c2
  have hsl := bS.lt
  have bS2 := ((bS.set 0 (.int .i64 r)).set 1 (.int .i64 c)).set 2 (.slice (some ⟨g, 0, none⟩) n n)
  have bg2 := ((bg.other (a := ⟨S, 0, none⟩) hSg (.int .i64 r)).other (a := ⟨S, 1, none⟩) hSg (.int .i64 c)).other (a := ⟨S, 2, none⟩) hSg (.slice (some ⟨g, 0, none⟩) n n)
  have bx2 := ((bx1.other (a := ⟨S, 0, none⟩) (by simp; omega) (.int .i64 r)).other (a := ⟨S, 1, none⟩) (by simp; omega) (.int .i64 c)).other (a := ⟨S, 2, none⟩) (by simp; omega) (.slice (some ⟨g, 0, none⟩) n n)
  have bq2 := ((bq1.other (a := ⟨S, 0, none⟩) (by simp; omega) (.int .i64 r)).other (a := ⟨S, 1, none⟩) (by simp; omega) (.int .i64 c)).other (a := ⟨S, 2, none⟩) (by simp; omega) (.slice (some ⟨g, 0, none⟩) n n)
  have hin2 := ((hin1.setCell (p := ⟨S, 0, none⟩) (by simp; omega) (.int .i64 r)).setCell (p := ⟨S, 1, none⟩) (by simp; omega) (.int .i64 c)).setCell (p := ⟨S, 2, none⟩) (by simp; omega) (.slice (some ⟨g, 0, none⟩) n n)
  have he := each_any (fun t W => Bx W S 78 [.int .i64 r, .int .i64 c, .slice (some ⟨g, 0, none⟩) n n] ∧ Bx W X 63 [.int .i64 r, .int .i64 c, .slice a r cap] ∧ Bx W (X + 1) 78 [.int .i64 0, .int .i64 0, .slice none 0 0] ∧ VBx W g (den r c f t) ∧ In w.heap.size w W ∧ ∃ pre, items r c f = pre ++ t)
    w _ (.agg #[.int .i64 r, .int .i64 c, .slice a r cap]) r c (mrows r c f) 83 #[.pointer (some ⟨S, 0, none⟩), .pointer (some ⟨X, 0, none⟩)] (enters_of Tryz.func83 (by kernel_rfl) rfl) HS.out (fun t W h => h.2.2.2.2.1) (fun t W W' h hb => ⟨h.1.call hb, h.2.1.call hb, h.2.2.1.call hb, h.2.2.2.1.call hb, h.2.2.2.2.1.call hb, h.2.2.2.2.2⟩)
    (fun i k x t W ⟨h1, h2, h3, h4, h5, pre, h6⟩ => by
      obtain ⟨hi, hk, hq, hset⟩ := den_set h6
      refine (dns1_any W g S X r c n i k cap a x _ h1 h2 h4 (by rw [den_length, HN.out]) (by rw [HN.out]; exact pos_lt hi hk) hn4).mono ?_
      rintro e w' ⟨rfl, k1, k2⟩
      rw [hset] at k1
      exact ⟨rfl, h1.grown k2 (by simp; omega), h2.grown k2 (by simp; omega), h3.grown k2 (by simp; omega), k1, h5.grown k2 (by rw [← HX.out]; omega), pre ++ [(i, k, x)], by rw [h6]; simp⟩)
    (by rw [mrows_length]; omega) (fun i => Nat.le_trans (mrows_row r c f i) (by omega))
    ⟨bS2, bx2, bq2, by rw [show itemsF 0 (mrows r c f) = items r c f from rfl, den_all, ← HN.out]; rw [HF.out] at bg2; exact bg2, by rw [← HX.out]; exact hin2, [], rfl⟩
  have x0 := bx1.c0
  have x1 := bx1.c1
  have x2 := bx1.c2
  have hxl := bx1.lt
  clear bS bg bS2 bg2 bx2 bq2 hin2 bx1 bq1 hin1 bx bq hin hc hf h
  go_wp2_with fail
  ((with_reducible refine he.mono ?_))
  rintro e w4 ⟨rfl, h1, h2, h3, h4, h5, _⟩
  rw [den_nil] at h4
  have hsl4 := h1.lt
  have hql4 := h3.lt
  have s0 := h1.c0
  have s1 := h1.c1
  have s2 := h1.c2
  have q0 := h3.c0
  have q1 := h3.c1
  have q2 := h3.c2
  have q3 := h3.frozen 0
  have q4 := h3.frozen 1
  have q5 := h3.frozen 2
  have G1 := Lib.hid (((h3.set 0 (.int .i64 r)).set 1 (.int .i64 c)).set 2 (.slice (some ⟨g, 0, none⟩) n n))
  have hne : ¬ X + 1 = g := by omega
  have G2 := Lib.hid (((Bx.other (a := ⟨X + 1, 0, none⟩) h4 hne (.int .i64 r)).other (a := ⟨X + 1, 1, none⟩) hne (.int .i64 c)).other (a := ⟨X + 1, 2, none⟩) hne (.slice (some ⟨g, 0, none⟩) n n))
  have G3 := Lib.hid (((h5.setCell (p := ⟨X + 1, 0, none⟩) (by rw [← HX.out]; simp) (.int .i64 r)).setCell (p := ⟨X + 1, 1, none⟩) (by rw [← HX.out]; simp) (.int .i64 c)).setCell (p := ⟨X + 1, 2, none⟩) (by rw [← HX.out]; simp) (.slice (some ⟨g, 0, none⟩) n n))
  clear he x0 x1 x2 h1 h2 h3 h4 h5
  go_wp2_with fail
  have g1 := G1.out
  have g2 := G2.out
  have g3 := G3.out
  clear G1 G2 G3 q0 q1 q2 q3 q4 q5 s0 s1 s2
  generalize ((w4.setCell ⟨X + 1, 0, none⟩ (.int .i64 r)).setCell ⟨X + 1, 1, none⟩ (.int .i64 c)).setCell ⟨X + 1, 2, none⟩ (.slice (some ⟨g, 0, none⟩) n n) = W5 at *
  have e0 : W5.cell? ⟨X + 1, 0, none⟩ = some (.int .i64 r) := g1.cell 0
  have e1 : W5.cell? ⟨X + 1, 1, none⟩ = some (.int .i64 c) := g1.cell 1
  have e2 : W5.cell? ⟨X + 1, 2, none⟩ = some (.slice (some ⟨g, 0, none⟩) n n) := g1.cell 2
  have hv : VecAt W5 (.slice (some ⟨g, 0, none⟩) n n) (dense r c f) := VBx.at g2 n (by rw [dense_length]; exact HN.out) n
  refine bodyPost_ret (v := .tuple #[.agg #[.int .i64 r, .int .i64 c, .slice (some ⟨g, 0, none⟩) n n], .int .i64 0]) ?_ rfl ⟨⟨_, rfl, _, rfl, dense_length r c f, hv⟩, g3.bel⟩
  simp [results, Tryz.results27, go_sem, e0, e1, e2]
end Gus
end
section
/- gussetlaw16.of; sizes of the laws' fractions. -/
namespace Gus
open Go Go.RowKit Go.Proofs
theorem SzK_int {n : Int} {k : Nat} (h : n.natAbs < 2 ^ k) (hk : 0 < k) : SzK k (n : Rat) := by
  constructor
  · simpa using h
  · have : 2 ^ 1 ≤ 2 ^ k := Nat.pow_le_pow_right (by decide) hk
    simp; omega
theorem qOf_szk {n d : Int} (hn0 : -9223372036854775808 ≤ n) (hn1 : n < 9223372036854775808) (hd0 : 0 ≤ d) (hd1 : d < 4294967296) : SzK 128 (qOf n d) := by
  unfold qOf
  exact (SzK_int (k := 64) (by omega) (by decide)).div (SzK_int (k := 64) (by omega) (by decide))
theorem mList_szk {qs : List (Int × Int)} (h : QOk qs) (k i : Nat) : SzK 128 ((mList qs k).getD i 0) := by
  by_cases hi : i < k
  · rw [List.getD_eq_getElem?_getD, List.getElem?_eq_getElem (by rw [mList_length]; exact hi)]
    simp only [mList, List.getElem_map, List.getElem_range, Option.getD_some, mEl]
    by_cases hq : i < qs.length
    · have hg : qs.getD i (0, 0) ∈ qs := by
        rw [List.getD_eq_getElem?_getD, List.getElem?_eq_getElem hq]; exact List.getElem_mem hq
      obtain ⟨a, b, c, d⟩ := h _ hg
      exact qOf_szk a b c d
    · have : qs.getD i (0, 0) = (0, 0) := by rw [List.getD_eq_getElem?_getD, List.getElem?_eq_none (by omega)]; rfl
      rw [this]
      exact qOf_szk (by decide) (by decide) (by decide) (by decide)
  · rw [List.getD_eq_getElem?_getD, List.getElem?_eq_none (by rw [mList_length]; omega)]
    exact SzK.zero.mono (by decide)
set_option maxRecDepth 100000 in
set_option maxHeartbeats 2000000 in
theorem lof_any {j : Nat} (w : World) (v : Value) (r c : Nat) (qs : List Rat) (hM : MatAt w v r c qs) (hr : r ≤ 2048) (hc : c ≤ 2048) (hz : ∀ i, SzK j (qs.getD i 0)) (hcap : r * c * (j + 1) + 1 < 17592186044416) :
    Calls Tryz.prog 29 #[v] w fun e w' => (∃ s, e = .returned s ∧ SpN w' w.heap.size s r c (mvals c qs)) ∧ Below w.heap.size w w' := by
  have h1 := fun W (hb : Below w.heap.size w W) => ofd_any W v r c qs (hM.call hb) hr hc hz hcap
  obtain ⟨a, cap, rfl⟩ := hM.shape
  obtain ⟨L, hL⟩ : ∃ L, L = qs.length := ⟨_, rfl⟩
  rw [← hL] at h1 ⊢
  obtain ⟨X, hX⟩ : ∃ X, X = w.heap.size := ⟨_, rfl⟩
  have HX := Lib.hid hX
  clear hM hL hz hcap
  go_enter Tryz.func29, Tryz.ntmps29
  go_wp2_with fail
  ((with_reducible refine (h1 _ ?_).mono ?_))
  · exact (((In.self w).alloc _).alloc _).bel
  rintro e w2 ⟨⟨s, rfl, hs⟩, hb⟩
  have hin := (((In.self w).alloc (.cells #[.int .i64 r, .int .i64 c, .slice a L cap] 78)).alloc (.cells #[.int .i64 0, .int .i64 0, .slice none 0 0] 63)).call hb
  have by1 := (Bx.new_at (w.alloc (.cells #[.int .i64 r, .int .i64 c, .slice a L cap] 78)) #[.int .i64 0, .int .i64 0, .slice none 0 0] 63 (n := X + 1) (by rw [World.size_alloc, hX])).call hb
  rw [World.size_alloc, World.size_alloc, ← hX] at hs
  rw [← hX] at hin ⊢
  clear hX hb h1
  obtain ⟨R, rfl⟩ : ∃ R, s = .agg #[.int .i64 r, .int .i64 c, .slice (some ⟨R, 0, none⟩) r r] := by obtain ⟨R, _, h, _⟩ := hs; exact ⟨R, h⟩
  obtain ⟨Z, hZ⟩ : ∃ Z, Z = w2.heap.size := ⟨_, rfl⟩
  have hYZ : X + 1 < Z := by have := by1.lt; omega
  have y0 := by1.c0
  have y1 := by1.c1
  have y2 := by1.c2
  have z0 := by1.frozen 0
  have z1 := by1.frozen 1
  have z2 := by1.frozen 2
  have hyl := by1.lt
  have hs7 := ((SpOwn.other (a := ⟨X + 1, 0, none⟩) hs (Nat.lt_succ_self _) (.int .i64 r)).other (a := ⟨X + 1, 1, none⟩) (Nat.lt_succ_self _) (.int .i64 c)).other (a := ⟨X + 1, 2, none⟩) (Nat.lt_succ_self _) (.slice (some ⟨R, 0, none⟩) r r)
  have by7 := ((by1.set 0 (.int .i64 r)).set 1 (.int .i64 c)).set 2 (.slice (some ⟨R, 0, none⟩) r r)
  have hin7 := ((hin.setCell (p := ⟨X + 1, 0, none⟩) (by simp) (.int .i64 r)).setCell (p := ⟨X + 1, 1, none⟩) (by simp) (.int .i64 c)).setCell (p := ⟨X + 1, 2, none⟩) (by simp) (.slice (some ⟨R, 0, none⟩) r r)
  have G1 := Lib.hid (SpOwn.call hs7 ((Below.refl _ _).alloc (Nat.le_refl _) (.cells #[.int .i64 r, .int .i64 c, .slice (some ⟨R, 0, none⟩) r r] 63)))
  have G2 := Lib.hid (by7.alloc (.cells #[.int .i64 r, .int .i64 c, .slice (some ⟨R, 0, none⟩) r r] 63))
  have G3 := Lib.hid (hin7.alloc (.cells #[.int .i64 r, .int .i64 c, .slice (some ⟨R, 0, none⟩) r r] 63))
  clear hs7 by7 hin7 hs by1 hin
  go_wp2_with fail
  have g1 := G1.out
  have g2 := G2.out
  have g3 := G3.out
  clear G1 G2 G3 y0 y1 y2 z0 z1 z2 hyl
  generalize (((w2.setCell ⟨X + 1, 0, none⟩ (.int .i64 r)).setCell ⟨X + 1, 1, none⟩ (.int .i64 c)).setCell ⟨X + 1, 2, none⟩ (.slice (some ⟨R, 0, none⟩) r r)).alloc (.cells #[.int .i64 r, .int .i64 c, .slice (some ⟨R, 0, none⟩) r r] 63) = W5 at *
  have e0 : W5.cell? ⟨X + 1, 0, none⟩ = some (.int .i64 r) := g2.cell 0
  have e1 : W5.cell? ⟨X + 1, 1, none⟩ = some (.int .i64 c) := g2.cell 1
  have e2 : W5.cell? ⟨X + 1, 2, none⟩ = some (.slice (some ⟨R, 0, none⟩) r r) := g2.cell 2
  have hfin : SpN W5 w.heap.size (.agg #[.int .i64 r, .int .i64 c, .slice (some ⟨R, 0, none⟩) r r]) r c (mvals c qs) := SpOwn.mono g1 (by rw [← HX.out]; omega)
  have hbel : Below w.heap.size w W5 := by rw [← HX.out]; exact g3.bel
  refine bodyPost_ret (v := .agg #[.int .i64 r, .int .i64 c, .slice (some ⟨R, 0, none⟩) r r]) ?_ rfl ⟨⟨_, rfl, hfin⟩, hbel⟩
  simp [results, Tryz.results29, go_sem, e0, e1, e2]
end Gus
end
section
/- gussetlaw16.SparsesSame. -/
namespace Gus
open Go Go.RowKit Go.Proofs
section
variable {P : Program} {ops : Array Oper} {w0 : World} {A : (Nat → Value) → Act} {T : Act → World → Prop} {i : Nat} {o : Oper} {os : List Oper} {V : Nat → (Nat → Value) → Value → World → Prop} {Φ : Nat → Bool}
end
theorem QAt.call {w w' : World} {a : Option Addr} {qs : List (Int × Int)} (h : QAt w a qs) (hb : Below w.heap.size w w') : QAt w' a qs := fun i hi => by
  obtain ⟨b, off, h1, h2, h3, h4⟩ := h i hi
  exact ⟨b, off, h1, Nat.lt_of_lt_of_le h2 hb.size, by rw [hb.cell (p := ⟨b, _, none⟩) h2]; exact h3, by rw [hb.cell (p := ⟨b, _, none⟩) h2]; exact h4⟩
/-- a row of fractions, with room behind them -/
def VRow (w : World) (g : Nat) (qs : List Rat) : Prop := ∃ rest, Bx w g 56 (fcl qs ++ rest)
theorem VRow.call {w w' : World} {g : Nat} {qs : List Rat} (h : VRow w g qs) (hb : Below w.heap.size w w') : VRow w' g qs := let ⟨r, h⟩ := h; ⟨r, h.call hb⟩
theorem VRow.own {w : World} {base n : Nat} {v : Value} {qs : List Rat} (h : w.ownsRow base 56 5 v n (fcl qs)) (hn : 0 < n) : ∃ g cap, v = .slice (some ⟨g, 0, none⟩) n cap ∧ base ≤ g ∧ VRow w g qs := by
  rcases h.2 with ⟨_, h0⟩ | ⟨g, cap, cur, rfl, hb, hg, _, _, _, ht⟩
  · omega
  · refine ⟨g, cap, rfl, hb, cur.toList.drop (n * 5), ?_⟩
    unfold Bx
    rw [← ht, List.take_append_drop, hg]
theorem VRow.other {w : World} {g : Nat} {qs : List Rat} {a : Addr} (h : VRow w g qs) (hne : a.block ≠ g) (u : Value) : VRow (w.setCell a u) g qs := let ⟨r, h⟩ := h; ⟨r, h.other hne u⟩
theorem fcl_at_app (qs : List Rat) (rest : List Value) {i j : Nat} (hi : i < qs.length) (hj : j < 5) : (fcl qs ++ rest)[i * 5 + j]? = (fcs (qs.getD i 0))[j]? := by
  rw [List.getElem?_append_left (by rw [fcl_length]; omega), fcl_at qs i j hi hj]
theorem VRow.at {w : World} {g : Nat} {qs : List Rat} (h : VRow w g qs) (n : Nat) (hn : n = qs.length) (cap : Nat) : VecAt w (.slice (some ⟨g, 0, none⟩) n cap) qs := by
  subst hn
  obtain ⟨rest, h⟩ := h
  exact ⟨_, _, rfl, fun i hi => ⟨g, 0, rfl, h.lt, fun j hj => by rw [h.cell, Nat.zero_add, fcl_at_app qs rest hi hj]⟩⟩
theorem VRow.cells {w : World} {g : Nat} {qs : List Rat} (h : VRow w g qs) {i : Nat} (hi : i < qs.length) : ∃ A1 A2 A3 A4 A5, fracV (qs.getD i 0) = .agg #[.int .u64 A1, .string A2, .bool A3, .int .u64 A4, .string A5] ∧
    w.cell? ⟨g, i * 5, none⟩ = some (.int .u64 A1) ∧ w.cell? ⟨g, i * 5 + 1, none⟩ = some (.string A2) ∧ w.cell? ⟨g, i * 5 + 2, none⟩ = some (.bool A3) ∧ w.cell? ⟨g, i * 5 + 3, none⟩ = some (.int .u64 A4) ∧ w.cell? ⟨g, i * 5 + 4, none⟩ = some (.string A5) ∧
    w.frozen? ⟨g, i * 5, none⟩ = false ∧ w.frozen? ⟨g, i * 5 + 1, none⟩ = false ∧ w.frozen? ⟨g, i * 5 + 2, none⟩ = false ∧ w.frozen? ⟨g, i * 5 + 3, none⟩ = false ∧ w.frozen? ⟨g, i * 5 + 4, none⟩ = false := by
  obtain ⟨rest, h⟩ := h
  have hc := fun j hj => (h.cell (i * 5 + j)).trans (fcl_at_app qs rest hi hj)
  exact ⟨_, _, _, _, _, rfl, hc 0 (by decide), hc 1 (by decide), hc 2 (by decide), hc 3 (by decide), hc 4 (by decide), h.frozen _, h.frozen _, h.frozen _, h.frozen _, h.frozen _⟩
theorem VRow.setA {w : World} {g : Nat} {qs : List Rat} (h : VRow w g qs) (i : Nat) (q : Rat) (hi : i < qs.length) {A1 A4 : Int} {A2 A5 : ByteArray} {A3 : Bool} (hq : fcs q = [.int .u64 A1, .string A2, .bool A3, .int .u64 A4, .string A5]) :
    VRow (((((w.setCell ⟨g, i * 5, none⟩ (.int .u64 A1)).setCell ⟨g, i * 5 + 1, none⟩ (.string A2)).setCell ⟨g, i * 5 + 2, none⟩ (.bool A3)).setCell ⟨g, i * 5 + 3, none⟩ (.int .u64 A4)).setCell ⟨g, i * 5 + 4, none⟩ (.string A5)) g (qs.set i q) := by
  obtain ⟨rfl, rfl, rfl, rfl, rfl⟩ := fcs_inj hq
  obtain ⟨rest, h⟩ := h
  refine ⟨rest, ?_⟩
  have h5 := ((((Bx.set h (i * 5) (.int .u64 (lo q.num.natAbs))).set (i * 5 + 1) (.string (bg q.num.natAbs))).set (i * 5 + 2) (.bool (decide (q.num < 0)))).set (i * 5 + 3) (.int .u64 (lo (q.den - 1)))).set (i * 5 + 4) (.string (bg (q.den - 1)))
  have hl := fcl_length qs
  rw [List.set_append_left _ _ (by omega), List.set_append_left _ _ (by rw [List.length_set]; omega), List.set_append_left _ _ (by simp only [List.length_set]; omega), List.set_append_left _ _ (by simp only [List.length_set]; omega), List.set_append_left _ _ (by simp only [List.length_set]; omega), fcl_set qs i q hi] at h5
  exact h5
/-- a store into a dense matrix's own variable leaves the elements of every matrix -/
theorem VecAt.apart {w : World} {v x : Value} {qs : List Rat} {S n k : Nat} {p q : Int} {ao : Option Addr} (h : VecAt w v qs) (hS : Bx w S 78 [.int .i64 p, .int .i64 q, .slice ao n k]) (j : Nat) : VecAt (w.setCell ⟨S, j, none⟩ x) v qs := by
  obtain ⟨a, cap, h1, h2⟩ := h
  refine ⟨a, cap, h1, fun i hi => ?_⟩
  obtain ⟨b, off, h3, h4, h5⟩ := h2 i hi
  have hne : b ≠ S := fun e => by
    subst e
    have h6 := h5 0 (by decide)
    rw [hS.cell] at h6
    have h7 : (fcs (qs.getD i 0))[0]? = some (.int .u64 (lo (qs.getD i 0).num.natAbs)) := rfl
    rw [h7] at h6
    generalize off + i * 5 + 0 = t at h6
    match t, h6 with
    | 0, h6 => simp at h6
    | 1, h6 => simp at h6
    | 2, h6 => simp at h6
    | t + 3, h6 => simp at h6
  exact ⟨b, off, h3, by rw [World.size_setCell]; exact h4, fun j' hj => by rw [World.cell?_setCell_other _ _ _ _ (by intro e; injection e with e1 e2; exact hne e1.symm)]; exact h5 j' hj⟩
theorem MatAt.put3 {w : World} {v : Value} {r c n k n' k' : Nat} {p q p' q' : Int} {ao ao' : Option Addr} {qs : List Rat} {S : Nat} (h : MatAt w v r c qs) (hS : Bx w S 78 [.int .i64 p, .int .i64 q, .slice ao n k]) :
    MatAt (((w.setCell ⟨S, 0, none⟩ (.int .i64 p')).setCell ⟨S, 1, none⟩ (.int .i64 q')).setCell ⟨S, 2, none⟩ (.slice ao' n' k')) v r c qs := by
  obtain ⟨x, h1, h2, h3⟩ := h
  have s1 := hS.set 0 (.int .i64 p')
  have s2 := s1.set 1 (.int .i64 q')
  exact ⟨x, h1, h2, ((h3.apart hS 0).apart s1 1).apart s2 2⟩
theorem VecAt.all {w : World} {n k : Nat} {a : Addr} {qs : List Rat} (h : VecAt w (.slice (some a) n k) qs) (j : Nat) (u : Value) (hj : (fcl qs)[j]? = some u) : w.cell? (a.add j) = some u := by
  obtain ⟨a', cap, h1, h2⟩ := h
  injection h1 with e1
  subst e1
  have hlt : j < qs.length * 5 := by
    have := (List.getElem?_eq_some_iff.1 hj).1
    rw [fcl_length] at this; exact this
  obtain ⟨b, off, h3, _, h5⟩ := h2 (j / 5) (by omega)
  injection h3 with h3
  subst h3
  have h6 := h5 (j % 5) (by omega)
  rw [← fcl_at qs (j / 5) (j % 5) (by omega) (by omega), show j / 5 * 5 + j % 5 = j by omega, hj, show off + j / 5 * 5 + j % 5 = off + j by omega] at h6
  rw [Addr.add_lit]
  exact h6
theorem MatAt.other {w : World} {ab ao L k r c g : Nat} {p q : Value} {qs : List Rat} (h : MatAt w (.agg #[p, q, .slice (some ⟨ab, ao, none⟩) L k]) r c qs) (hne : g ≠ ab) (j : Nat) (u : Value) : MatAt (w.setCell ⟨g, j, none⟩ u) (.agg #[p, q, .slice (some ⟨ab, ao, none⟩) L k]) r c qs := by
  obtain ⟨x, h1, h2, h3⟩ := h
  have h5 := h1
  simp only [Value.agg.injEq] at h1
  have h4 := congrArg Array.toList h1
  simp only [List.cons.injEq, and_true] at h4
  obtain ⟨a, cap, e1, e2⟩ := h3
  refine ⟨x, h5, h2, a, cap, e1, fun i hi => ?_⟩
  obtain ⟨b, off, e3, e4, e5⟩ := e2 i hi
  rw [← h4.2.2] at e1
  simp only [Value.slice.injEq] at e1
  obtain ⟨e1, _⟩ := e1
  rw [e3] at e1
  simp only [Option.some.injEq, Addr.mk.injEq, and_true] at e1
  exact ⟨b, off, e3, by rw [World.size_setCell]; exact e4, fun j' hj => by rw [World.cell?_setCell_other _ _ _ _ (by intro e; injection e with e6 e7; exact hne (e6.trans e1.1.symm))]; exact e5 j' hj⟩
theorem MatAt.len {w : World} {p q : Value} {a : Option Addr} {L k r c : Nat} {qs : List Rat} (h : MatAt w (.agg #[p, q, .slice a L k]) r c qs) : L = r * c := by
  obtain ⟨x, h1, h2, h3⟩ := h
  obtain ⟨a', k', rfl⟩ := h3.shape
  simp only [Value.agg.injEq] at h1
  have h4 := congrArg Array.toList h1
  simp only [List.cons.injEq, Value.slice.injEq, and_true] at h4
  omega
end Gus
end
section
/- mats: at, row, Make. -/
namespace Gus
open Go Go.RowKit Go.Proofs
set_option maxRecDepth 100000 in
set_option maxHeartbeats 2000000 in
theorem mel_any (w : World) (v : Value) (r c i k : Nat) (qs : List Rat) (hM : MatAt w v r c qs) (hi : i < r) (hk : k < c) (hr : r ≤ 2048) (hc : c ≤ 2048) :
    Calls Tryz.prog 98 #[v, .int .i64 i, .int .i64 k] w fun e w' => e = .returned (fracV (qs.getD (i * c + k) 0)) ∧ Below w.heap.size w w' := by
  obtain ⟨x, rfl, hl, hv⟩ := hM
  obtain ⟨t, ht⟩ : ∃ t, t = i * c + k := ⟨_, rfl⟩
  have htl : t < qs.length := by rw [hl, ht]; exact pos_lt hi hk
  obtain ⟨b, off, cap, A1, A2, A3, A4, A5, rfl, hb, _, hA, d0, d1, d2, d3, d4⟩ := hv.at htl
  have hn4 : r * c ≤ 4194304 := Nat.mul_le_mul hr hc
  rw [← ht, hA]
  obtain ⟨L, hL⟩ : ∃ L, L = qs.length := ⟨_, rfl⟩
  obtain ⟨d, hd⟩ : ∃ d, d = i * c := ⟨_, rfl⟩
  have hw1 : IntKind.i64.wrap ((i : Int) * c) = (d : Int) := by rw [hd, ← Int.natCast_mul]; exact IntWalk.i64_in _ (by omega)
  have hw2 : IntKind.i64.wrap ((d : Int) + k) = (t : Int) := by rw [ht, hd, ← Int.natCast_add]; exact IntWalk.i64_in _ (by omega)
  rw [← hL] at htl ⊢
  have htn : (t : Int) < L := by omega
  have ht0 : (0 : Int) ≤ t := by omega
  clear hv hl ht hd hL hA hn4
  go_enter Tryz.func98, Tryz.ntmps98
  go_wp2_with fail
  exact bodyPost_ret (v := .agg #[.int .u64 A1, .string A2, .bool A3, .int .u64 A4, .string A5]) (by simp [results, Tryz.results98, go_sem, *]) rfl ⟨rfl, by (refine In.bel ?_; (repeat (first | (refine In.setCell ?_ (by first | omega | (simp; done) | (simp; omega)) _) | (refine In.alloc ?_ _) | (refine In.drew ?_))); (first | exact In.self _ | (refine In.out h ?_ (by first | omega | (simp; done) | (simp; omega)); (repeat (first | (refine In.setCell ?_ (by first | omega | (simp; done) | (simp; omega)) _) | (refine In.alloc ?_ _) | (refine In.drew ?_))); exact In.self _)))⟩
set_option maxRecDepth 100000 in
set_option maxHeartbeats 2000000 in
theorem mrow_any (w : World) (r c i n g : Nat) (hn : n = r * c) (hi : i < r) (hr : r ≤ 2048) (hc : c ≤ 2048) :
    Calls Tryz.prog 116 #[.agg #[.int .i64 r, .int .i64 c, .slice (some ⟨g, 0, none⟩) n n], .int .i64 i] w fun e w' => ∃ o, e = .returned (.slice (some ⟨g, o, none⟩) c c) ∧ (0 < c → o = i * c * 5) ∧ Below w.heap.size w w' := by
  have hn4 : n ≤ 4194304 := by rw [hn]; exact Nat.mul_le_mul hr hc
  have hlt : (i + 1) * c ≤ n := by rw [hn]; exact Nat.mul_le_mul_right c (by omega)
  obtain ⟨d, hd⟩ : ∃ d, d = i * c := ⟨_, rfl⟩
  have hd2 : (i + 1) * c = d + c := by rw [hd, Nat.add_mul, Nat.one_mul]
  rw [hd2] at hlt
  have hw1 : IntKind.i64.wrap ((i : Int) * c) = (d : Int) := by rw [hd, ← Int.natCast_mul]; exact IntWalk.i64_in _ (by omega)
  have hw0 : IntKind.i64.wrap ((i : Int) + 1) = ((i + 1 : Nat) : Int) := IntWalk.i64_in _ (by omega)
  obtain ⟨i1, hi1⟩ : ∃ i1, i1 = i + 1 := ⟨_, rfl⟩
  rw [← hi1] at hw0 hd2
  obtain ⟨u, hu⟩ : ∃ u, u = d + c := ⟨_, rfl⟩
  have hw2 : IntKind.i64.wrap ((i1 : Int) * c) = (u : Int) := by rw [hu, ← hd2, ← Int.natCast_mul]; exact IntWalk.i64_in _ (by rw [hd2]; omega)
  rw [← hd]
  have k1 : (d : Int) ≤ u := by omega
  have k2 : (u : Int) ≤ n := by omega
  have k3 : (0 : Int) ≤ d := by omega
  clear hd hd2 hn hi1
  go_enter Tryz.func116, Tryz.ntmps116
  go_upto_region 1 with fail
  obtain ⟨W1, hW1⟩ : ∃ W1, W1 = w.alloc (.cells #[.int .i64 r, .int .i64 c, .slice (some ⟨g, 0, none⟩) n n] 78) := ⟨_, rfl⟩
  obtain ⟨X, hX⟩ : ∃ X, X = w.heap.size := ⟨_, rfl⟩
  have hin : In w.heap.size w W1 := by rw [hW1]; exact (In.self w).alloc _
  have bx := Bx.new_at w #[.int .i64 r, .int .i64 c, .slice (some ⟨g, 0, none⟩) n n] 78 hX
  rw [← hW1] at bx ⊢
  rw [← hX]
  have x0 := bx.c0
  have x1 := bx.c1
  have x2 := bx.c2
  have xl := bx.lt
  clear hW1 hX
  have h := In.self W1
  have hcc := hc
  have hc := h.cell
  refine wp_region_flow 10 (by kernel_rfl) (by kernel_rfl) (fun _ _ d _ _ h => by cases d <;> exact h) ?_; simp only [List.take_succ_cons, List.take_zero, List.drop_succ_cons, List.drop_zero]; simp only [putAll, Act.put, List.setIfInBounds_toArray, List.set]; (try simp only [Nat.reduceAdd]); (try simp only [Nat.zero_add]); (repeat (first | ((with_reducible refine flow_float (v := ?_) ?_ ?_ ?_); rotate_left 1; (focus (with_reducible rfl)); (focus (intro u w1 hw hd w2; (try simp only [depH] at hd); (try simp only [ext] at hd); (try simp only [extU] at hd); (try simp only [Nat.reduceAdd] at hd); (try simp only [Nat.reduceEqDiff] at hd); (try simp only [reduceIte] at hd); (try simp only [if_true] at hd); (try simp only [if_false] at hd); (try simp only [and_true] at hd); (try simp only [true_and] at hd); go_simp; exact rfl))) | ((with_reducible refine flow_pure0 (v := ?_) ?_ ?_ ?_ ?_); rotate_left 1; (focus (with_reducible rfl)); (focus rfl); (focus (intro u w1 hw hd; (try simp only [depH] at hd); (try simp only [ext] at hd); (try simp only [extU] at hd); (try simp only [Nat.reduceAdd] at hd); (try simp only [Nat.reduceEqDiff] at hd); (try simp only [reduceIte] at hd); (try simp only [if_true] at hd); (try simp only [if_false] at hd); (try simp only [and_true] at hd); (try simp only [true_and] at hd); have hc' := hw.cell; go_simp; exact rfl))) | ((with_reducible refine flow_skipg (j := ?_) (b := ?_) ?_ ?_ ?_); rotate_left 2; (focus (with_reducible rfl)); (focus (intro u w1 hw hd; (try simp only [depH] at hd); (try simp only [ext] at hd); (try simp only [extU] at hd); (try simp only [Nat.reduceAdd] at hd); (try simp only [Nat.reduceEqDiff] at hd); (try simp only [reduceIte] at hd); (try simp only [if_true] at hd); (try simp only [if_false] at hd); (try simp only [and_true] at hd); (try simp only [true_and] at hd); simp [yielded, hd]; done))) | ((with_reducible refine flow_pureg (v := ?_) (j := ?_) (b := ?_) ?_ ?_ ?_ ?_); rotate_left 3; (focus (with_reducible rfl)); (focus (intro u w1 hw hd; (try simp only [depH] at hd); (try simp only [ext] at hd); (try simp only [extU] at hd); (try simp only [Nat.reduceAdd] at hd); (try simp only [Nat.reduceEqDiff] at hd); (try simp only [reduceIte] at hd); (try simp only [if_true] at hd); (try simp only [if_false] at hd); (try simp only [and_true] at hd); (try simp only [true_and] at hd); simp [yielded, hd]; done)); (focus (intro u w1 hw hd; (try simp only [depH] at hd); (try simp only [ext] at hd); (try simp only [extU] at hd); (try simp only [Nat.reduceAdd] at hd); (try simp only [Nat.reduceEqDiff] at hd); (try simp only [reduceIte] at hd); (try simp only [if_true] at hd); (try simp only [if_false] at hd); (try simp only [and_true] at hd); (try simp only [true_and] at hd); have hc' := hw.cell; go_simp; exact rfl))) | ((with_reducible refine flow_alloc (t := ?_) (zs := ?_) ?_ ?_ ?_ ?_); rotate_left 2; (focus (with_reducible rfl)); (focus rfl); (focus (intro u w1; go_simp; exact rfl)))))
  (try clear hc hf h); intro u w' h ha hdi; replace h := h.ins; (try simp only [World.size_alloc] at h); (try dsimp only at ha); (repeat rw [World.size_alloc] at ha); (try simp only [allH] at ha); (try simp only [ext] at ha); (try simp only [extU] at ha); (try simp only [Nat.reduceAdd] at ha); (try simp only [Nat.reduceEqDiff] at ha); (try simp only [reduceIte] at ha); (try simp only [if_true] at ha); (try simp only [if_false] at ha); (try simp only [and_true] at ha); (try simp only [true_and] at ha); have hc := h.cell; have hf := h.frozen
  (try obtain ha := ha); (try dsimp only);  simp only [ha]; clear ha hdi 
  have hin2 := hin.call h.bel
  have bx2 := bx.call h.bel
  clear h hc hf hin bx x0 x1 x2 xl
  have x2 := bx2.c2
  have xl := bx2.lt
  go_wp2_with fail
  all_goals
    go_ret
    first | exact ⟨d * 5, rfl, fun _ => rfl, hin2.bel⟩ | exact ⟨⟨0, rfl⟩, hin2.bel⟩ | exact ⟨⟨d * 5, rfl, fun _ => rfl⟩, hin2.bel⟩
set_option maxRecDepth 100000 in
set_option maxHeartbeats 4000000 in
theorem make_any (F : Nat → Nat → Rat) (w : World) (r c : Nat) (g0 : Nat) (cb : Array Value) (eg : ∀ args w, (callFunc g0 args).run Tryz.prog w = .ok (.enter g0 args) w) (hr : r ≤ 2048) (hc : c ≤ 2048)
    (hcl : ∀ i k W, i < r → k < c → In w.heap.size w W → Calls Tryz.prog g0 (#[.int .i64 (i : Nat), .int .i64 (k : Nat)] ++ cb) W fun e w' => e = .returned (fracV (F i k)) ∧ Below W.heap.size W w') :
    Calls Tryz.prog 96 #[.int .i64 r, .int .i64 c, .func (.func g0) #[] cb] w fun e w' => (∃ d, e = .returned (.tuple #[d, .int .i64 0]) ∧ MatAt w' d r c (dense r c F)) ∧ Below w.heap.size w w' := by
  have h1 := msides_any r c
  rw [show sidesE (r : Int) c = 0 by unfold sidesE; rw [if_neg (by omega), if_neg (by omega)]] at h1
  obtain ⟨n, hn⟩ : ∃ n, n = r * c := ⟨_, rfl⟩
  have hn4 : n ≤ 4194304 := by rw [hn]; exact Nat.mul_le_mul hr hc
  have HN := Lib.hid hn
  have hmk := info_frac6 n hn4
  have hwm : IntKind.i64.wrap ((r : Int) * c) = (n : Int) := by rw [hn, ← Int.natCast_mul]; exact IntWalk.i64_in _ (by rw [← hn]; omega)
  obtain ⟨fc, hfc⟩ : ∃ fc, fc = fcl (List.replicate n 0) := ⟨_, rfl⟩
  have HF := Lib.hid hfc
  rw [← hfc] at hmk
  obtain ⟨X, hX⟩ : ∃ X, X = w.heap.size := ⟨_, rfl⟩
  have HX := Lib.hid hX
  have HC := Lib.hid hcl
  have hnf : ∀ W, (binOp .eql 58 (.func (.func g0) #[] cb) .nilFunc).run Tryz.prog W = .ok (.bool false) W := fun W => rfl
  clear hn hfc hcl
  go_enter Tryz.func96, Tryz.ntmps96
  go_wp2_with fail
  ((with_reducible refine (h1 _).mono ?_))
  rintro e w1 ⟨rfl, hb⟩
  have hin := ((In.self w).alloc (.cells #[.int .i64 0, .int .i64 0, .slice none 0 0] 78)).call hb
  have bx := (Bx.new_at w #[.int .i64 0, .int .i64 0, .slice none 0 0] 78 hX).call hb
  rw [← hX] at hin ⊢
  have x0 := bx.c0
  have x1 := bx.c1
  have x2 := bx.c2
  have xl := bx.lt
  clear hX hb h1
  go_upto_region 7 with fail
  obtain ⟨g, hg⟩ : ∃ g, g = w1.heap.size := ⟨_, rfl⟩
  have hXg : X < g := by omega
  have bv : VBx ((w1.alloc (.cells fc.toArray 56)).alloc (.cells #[.int .i64 r, .int .i64 c, .slice (some ⟨g, 0, none⟩) n n] 78)) g (pv (fun p => F (p / c) (p % c)) n 0) := by
    have := (Bx.new_at w1 fc.toArray 56 hg).alloc (.cells #[.int .i64 r, .int .i64 c, .slice (some ⟨g, 0, none⟩) n n] 78)
    show Bx _ g 56 (fcl _)
    rw [pv_zero, ← HF.out]; exact this
  have bs := Bx.new_at (w1.alloc (.cells fc.toArray 56)) #[.int .i64 r, .int .i64 c, .slice (some ⟨g, 0, none⟩) n n] 78 (n := g + 1) (by rw [World.size_alloc, hg])
  replace bx := (bx.alloc (.cells fc.toArray 56)).alloc (.cells #[.int .i64 r, .int .i64 c, .slice (some ⟨g, 0, none⟩) n n] 78)
  replace hin := (hin.alloc (.cells fc.toArray 56)).alloc (.cells #[.int .i64 r, .int .i64 c, .slice (some ⟨g, 0, none⟩) n n] 78)
  rw [← hg]
  clear hg hmk x0 x1 x2 xl hnf hwm
  generalize (w1.alloc (.cells fc.toArray 56)).alloc (.cells #[.int .i64 r, .int .i64 c, .slice (some ⟨g, 0, none⟩) n n] 78) = W1 at *
  go_wp2_with fail
  go_loopw [31] (fun v31 wr => ∃ i : Nat, i ≤ r ∧ v31 = .int .i64 i ∧ In X w wr ∧ Bx wr X 78 [.int .i64 0, .int .i64 0, .slice none 0 0] ∧ Bx wr (g + 1) 78 [.int .i64 r, .int .i64 c, .slice (some ⟨g, 0, none⟩) n n] ∧ VBx wr g (pv (fun p => F (p / c) (p % c)) n (i * c))) (fun v31 _ => r - (RowKit.intOf v31).toNat)
  case atStart => exact ⟨0, Nat.zero_le _, rfl, hin, bx, bs, by rw [Nat.zero_mul]; exact bv⟩
  case round =>
    clear hin bx bs bv
    obtain ⟨i, hi, rfl, hin, bx, bs, bv⟩ := hrel
    by_cases hir : i < r
    · have hiI : (i : Int) < r := by omega
      have s0 := bs.c0
      have s1 := bs.c1
      have s2 := bs.c2
      have sl := bs.lt
      have s0 := bs.c0
      have s1 := bs.c1
      have s2 := bs.c2
      have sl := bs.lt
      have hrow := mrow_any wr r c i n g HN.out hir hr hc
      obtain ⟨d, hd⟩ : ∃ d, d = i * c := ⟨_, rfl⟩
      have hdn : d + c ≤ n := by
        have := Nat.mul_le_mul_right c (show i + 1 ≤ r by omega)
        rw [Nat.add_mul, Nat.one_mul] at this
        rw [hd, HN.out]; exact this
      simp only [← hd] at hrow bv
      have HD := Lib.hid hd
      clear hd
      go_wp2_with fail
      ((with_reducible refine hrow.mono ?_))
      rintro e w2 ⟨o, rfl, ho, hb⟩
      replace hin := hin.call hb
      replace bx := bx.call hb
      replace bs := bs.call hb
      replace bv := bv.call hb
      clear hb hrow s0 s1 s2 sl
      go_wp2_with fail
      go_loopw [38] (fun v38 wq => ∃ k : Nat, k ≤ c ∧ v38 = .int .i64 k ∧ In X w wq ∧ Bx wq X 78 [.int .i64 0, .int .i64 0, .slice none 0 0] ∧ Bx wq (g + 1) 78 [.int .i64 r, .int .i64 c, .slice (some ⟨g, 0, none⟩) n n] ∧ VBx wq g (pv (fun p => F (p / c) (p % c)) n (d + k))) (fun v38 _ => c - (RowKit.intOf v38).toNat)
      case atStart => exact ⟨0, Nat.zero_le _, rfl, hin, bx, bs, bv⟩
      case round =>
        clear hin bx bs bv
        obtain ⟨k, hk, rfl, hin, bx, bs, bv⟩ := hrel
        by_cases hkc : k < c
        · have hkI : (k : Int) < c := by omega
          have hk0 : (0 : Int) ≤ k := by omega
          have hcl := HC.out i k wr hir hkc (by rw [← HX.out]; exact hin)
          obtain ⟨q, hq⟩ : ∃ q, q = F i k := ⟨_, rfl⟩
          rw [← hq] at hcl
          have HQ := Lib.hid hq
          clear hq
          go_wp2_with fail
          (refine hcl.mono ?_)
          rintro e w3 ⟨rfl, hb⟩
          have hin3 := hin.call hb
          have bx3 := bx.call hb
          have bs3 := bs.call hb
          have bv3 := bv.call hb
          obtain rfl := ho (by omega)
          have hlt : d + k < (pv (fun p => F (p / c) (p % c)) n (d + k)).length := by rw [pv_length]; omega
          obtain ⟨_, _, _, _, _, _, c0, c1, c2, c3, c4, f0, f1, f2, f3, f4⟩ := VBx.cells bv3 hlt
          have hgl := bv3.lt
          have hs := VBx.set bv3 (d + k) q hlt
          rw [show (pv (fun p => F (p / c) (p % c)) n (d + k)).set (d + k) q = pv (fun p => F (p / c) (p % c)) n (d + (k + 1)) by
            rw [HQ.out, show F i k = (fun p => F (p / c) (p % c)) (d + k) by
              simp only [HD.out, (pos_of (i := i) hkc).1, (pos_of (i := i) hkc).2]]
            exact pv_set _ _ _] at hs
          have hX1 : X + 1 + 1 ≤ g + 1 := by omega
          have hi5 := hin3.put5 (g := g) (by omega) (d + k) q
          have bx5 := ((((bx3.other (a := ⟨g, (d + k) * 5, none⟩) (by simp; omega) (.int .u64 (lo q.num.natAbs))).other (a := ⟨g, (d + k) * 5 + 1, none⟩) (by simp; omega) (.string (bg q.num.natAbs))).other (a := ⟨g, (d + k) * 5 + 2, none⟩) (by simp; omega) (.bool (decide (q.num < 0)))).other (a := ⟨g, (d + k) * 5 + 3, none⟩) (by simp; omega) (.int .u64 (lo (q.den - 1)))).other (a := ⟨g, (d + k) * 5 + 4, none⟩) (by simp; omega) (.string (bg (q.den - 1)))
          have bs5 := ((((bs3.other (a := ⟨g, (d + k) * 5, none⟩) (by simp) (.int .u64 (lo q.num.natAbs))).other (a := ⟨g, (d + k) * 5 + 1, none⟩) (by simp) (.string (bg q.num.natAbs))).other (a := ⟨g, (d + k) * 5 + 2, none⟩) (by simp) (.bool (decide (q.num < 0)))).other (a := ⟨g, (d + k) * 5 + 3, none⟩) (by simp) (.int .u64 (lo (q.den - 1)))).other (a := ⟨g, (d + k) * 5 + 4, none⟩) (by simp) (.string (bg (q.den - 1)))
          rw [Nat.add_mul] at hs hi5 bx5 bs5 c0 c1 c2 c3 c4 f0 f1 f2 f3 f4
          have H1 := Lib.hid hs
          have H2 := Lib.hid hi5
          have H3 := Lib.hid bx5
          have H4 := Lib.hid bs5
          have hkw : IntKind.i64.wrap ((k : Int) + 1) = ((k + 1 : Nat) : Int) := IntWalk.i64_in _ (by omega)
          clear hs hi5 bx5 bs5 hin3 bx3 bs3 bv3 hin bx bs bv hb hcl
          go_wp2_with fail
          exact ⟨⟨k + 1, by omega, by go_num, H2.out, H3.out, H4.out, H1.out⟩, by simp [RowKit.intOf]; omega⟩
        · obtain rfl : k = c := by omega
          have hkI : ¬ (k : Int) < k := by omega
          have hiw : IntKind.i64.wrap ((i : Int) + 1) = ((i + 1 : Nat) : Int) := IntWalk.i64_in _ (by omega)
          have H1 : Hid (VBx wr g (pv (fun p => F (p / k) (p % k)) n ((i + 1) * k))) := Lib.hid (by rw [Nat.add_mul, Nat.one_mul, ← HD.out]; exact bv)
          have H2 := Lib.hid hin
          have H3 := Lib.hid bx
          have H4 := Lib.hid bs
          clear hin bx bs bv
          go_wp2_with fail
          exact ⟨⟨i + 1, by omega, by go_num, H2.out, H3.out, H4.out, H1.out⟩, by simp [RowKit.intOf]; omega⟩
    · obtain rfl : i = r := by omega
      have hiI : ¬ (i : Int) < i := by omega
      rw [← HN.out, pv_full] at bv
      have s0 := bs.c0
      have s1 := bs.c1
      have s2 := bs.c2
      have sl := bs.lt
      have x0 := bx.c0
      have x1 := bx.c1
      have x2 := bx.c2
      have x3 := bx.frozen 0
      have x4 := bx.frozen 1
      have x5 := bx.frozen 2
      have xl := bx.lt
      have hXg2 : ¬ X = g := by omega
      have G1 := Lib.hid (((bx.set 0 (.int .i64 i)).set 1 (.int .i64 c)).set 2 (.slice (some ⟨g, 0, none⟩) n n))
      have G2 := Lib.hid (((Bx.other (a := ⟨X, 0, none⟩) bv hXg2 (.int .i64 i)).other (a := ⟨X, 1, none⟩) hXg2 (.int .i64 c)).other (a := ⟨X, 2, none⟩) hXg2 (.slice (some ⟨g, 0, none⟩) n n))
      have G3 := Lib.hid (((hin.setCell (p := ⟨X, 0, none⟩) (Nat.le_refl _) (.int .i64 i)).setCell (p := ⟨X, 1, none⟩) (Nat.le_refl _) (.int .i64 c)).setCell (p := ⟨X, 2, none⟩) (Nat.le_refl _) (.slice (some ⟨g, 0, none⟩) n n))
      clear hin bx bs bv
      go_wp2_with fail
      have g1 := G1.out
      have g2 := G2.out
      have g3 := G3.out
      clear G1 G2 G3 s0 s1 s2 sl x0 x1 x2 x3 x4 x5 xl
      generalize ((wr.setCell ⟨X, 0, none⟩ (.int .i64 i)).setCell ⟨X, 1, none⟩ (.int .i64 c)).setCell ⟨X, 2, none⟩ (.slice (some ⟨g, 0, none⟩) n n) = W5 at *
      have e0 : W5.cell? ⟨X, 0, none⟩ = some (.int .i64 i) := g1.cell 0
      have e1 : W5.cell? ⟨X, 1, none⟩ = some (.int .i64 c) := g1.cell 1
      have e2 : W5.cell? ⟨X, 2, none⟩ = some (.slice (some ⟨g, 0, none⟩) n n) := g1.cell 2
      have hv : VecAt W5 (.slice (some ⟨g, 0, none⟩) n n) (dense i c F) := by
        have := VBx.at g2 n (by simp) n
        rw [HN.out] at this ⊢
        exact this
      refine bodyPost_ret (v := .tuple #[.agg #[.int .i64 i, .int .i64 c, .slice (some ⟨g, 0, none⟩) n n], .int .i64 0]) ?_ rfl ⟨⟨_, rfl, _, rfl, dense_length i c F, hv⟩, by rw [← HX.out]; exact g3.bel⟩
      simp [results, Tryz.results96, go_sem, e0, e1, e2]
end Gus
end
section
/- sparses.At, mats.At. -/
namespace Gus
open Go Go.RowKit Go.Proofs
abbrev zeroFr : Value := .agg #[.int .u64 0, .string ⟨#[]⟩, .bool false, .int .u64 0, .string ⟨#[]⟩]
theorem MatAt.len2 {w : World} {v : Value} {r c : Nat} {qs : List Rat} (h : MatAt w v r c qs) : qs.length = r * c := let ⟨_, _, h, _⟩ := h; h
end Gus
end
section
/- gussetlaw16.equals. -/
namespace Gus
open Go Go.RowKit Go.Proofs
set_option maxRecDepth 100000 in
set_option maxHeartbeats 2000000 in
theorem eq_bad (w : World) (e : Int) (he : e ≠ 0) (p q : Value) (a : Option Addr) (n k : Nat) :
    Calls Tryz.prog 40 #[zeroSp, .int .i64 e, .agg #[p, q, .slice a n k], .int .i64 e] w fun e w' => e = .returned (.bool true) ∧ Below w.heap.size w w' := by
  have h1 : (e == 0) = false := by simpa using he
  have h2 : (e != 0) = true := by simpa using he
  clear he
  go_enter Tryz.func40, Tryz.ntmps40
  go_wp2_with fail
  go_ret
  exact ⟨rfl, by (refine In.bel ?_; (repeat (first | (refine In.setCell ?_ (by first | omega | (simp; done) | (simp; omega)) _) | (refine In.alloc ?_ _) | (refine In.drew ?_))); (first | exact In.self _ | (refine In.out h ?_ (by first | omega | (simp; done) | (simp; omega)); (repeat (first | (refine In.setCell ?_ (by first | omega | (simp; done) | (simp; omega)) _) | (refine In.alloc ?_ _) | (refine In.drew ?_))); exact In.self _)))⟩
set_option maxRecDepth 100000 in
set_option maxHeartbeats 2000000 in
theorem eq_ok (w : World) (s m : Value) (r c : Nat) (f : Nat → Nat → Rat) (hS : SpM w s r c f) (hM : MatAt w m r c (dense r c f)) (hr : r ≤ 64) (hc : c ≤ 64) :
    Calls Tryz.prog 40 #[s, .int .i64 0, m, .int .i64 0] w fun e w' => e = .returned (.bool true) ∧ Below w.heap.size w w' := by
  have hrc : r * c ≤ 4096 := Nat.mul_le_mul hr hc
  have h1 := fun W (hb : Below w.heap.size w W) => dense_ok W s r c f (hS.call hb) (by omega) (by omega)
  have h2 := fun W (hb : Below w.heap.size w W) => scheck_ok (hS.call hb) (show r ≤ 2048 by omega) (show c ≤ 2048 by omega)
  have h3 := fun W d (hd : MatAt W d r c (dense r c f)) (hb : Below w.heap.size w W) => msame_any W d m r c r c (dense r c f) (dense r c f) hd (hM.call hb) (by rw [dense_length]; omega)
  rw [show sameD r c (dense r c f) r c (dense r c f) = true by simp [sameD]] at h3
  obtain ⟨sa, sk, rfl⟩ := hS.shape
  obtain ⟨ma, mk, rfl⟩ := hM.shape
  rw [dense_length] at h3 ⊢
  obtain ⟨n, hn⟩ : ∃ n, n = r * c := ⟨_, rfl⟩
  rw [← hn] at h3 ⊢
  obtain ⟨X, hX⟩ : ∃ X, X = w.heap.size := ⟨_, rfl⟩
  have HX := Lib.hid hX
  have HN := Lib.hid hn
  clear hS hM hn hrc
  go_enter Tryz.func40, Tryz.ntmps40
  go_wp2_with fail
  ((with_reducible refine (h1 _ ?_).mono ?_))
  · exact (((In.self w).alloc _).alloc _).bel
  rintro e w2 ⟨⟨d, rfl, hd⟩, hb⟩
  have hin := (((In.self w).alloc (.cells #[.int .i64 r, .int .i64 c, .slice sa r sk] 63)).alloc (.cells #[.int .i64 r, .int .i64 c, .slice ma n mk] 78)).call hb
  have bx := ((Bx.new_at w #[.int .i64 r, .int .i64 c, .slice sa r sk] 63 hX).alloc (.cells #[.int .i64 r, .int .i64 c, .slice ma n mk] 78)).call hb
  have bm := (Bx.new_at (w.alloc (.cells #[.int .i64 r, .int .i64 c, .slice sa r sk] 63)) #[.int .i64 r, .int .i64 c, .slice ma n mk] 78 (n := X + 1) (by rw [World.size_alloc, hX])).call hb
  obtain ⟨da, dk, rfl⟩ := hd.shape
  rw [dense_length, ← HN.out] at hd ⊢
  rw [← hX]
  clear hX hb h1
  go_upto_region 4 with fail
  obtain ⟨Z, hZ⟩ : ∃ Z, Z = w2.heap.size := ⟨_, rfl⟩
  have bd := Bx.new_at w2 #[.int .i64 r, .int .i64 c, .slice da n dk] 78 hZ
  have hin2 := hin.alloc (.cells #[.int .i64 r, .int .i64 c, .slice da n dk] 78)
  have bx2 := bx.alloc (.cells #[.int .i64 r, .int .i64 c, .slice da n dk] 78)
  have bm2 := bm.alloc (.cells #[.int .i64 r, .int .i64 c, .slice da n dk] 78)
  have hd2 := hd.call ((Below.refl _ _).alloc (Nat.le_refl _) (.cells #[.int .i64 r, .int .i64 c, .slice da n dk] 78))
  rw [← hZ]
  clear hZ hin bx bm hd
  generalize w2.alloc (.cells #[.int .i64 r, .int .i64 c, .slice da n dk] 78) = W3 at *
  have x0 := bx2.c0
  have x1 := bx2.c1
  have x2 := bx2.c2
  have xl := bx2.lt
  go_wp2_with fail
  ((with_reducible refine (h2 _ hin2.bel).mono ?_))
  rintro e w4 ⟨rfl, hb⟩
  have hin4 := hin2.call hb
  have bd4 := bd.call hb
  have bm4 := bm2.call hb
  have hd4 := hd2.call hb
  clear hin2 bd bx2 bm2 hd2 hb h2 x0 x1 x2 xl
  have d0 := bd4.c0
  have d1 := bd4.c1
  have d2 := bd4.c2
  have dl := bd4.lt
  have m0 := bm4.c0
  have m1 := bm4.c1
  have m2 := bm4.c2
  have ml := bm4.lt
  go_wp2_with fail
  ((with_reducible refine (h3 _ _ hd4 hin4.bel).mono ?_))
  rintro e w5 ⟨rfl, hb⟩
  have hin5 := hin4.call hb
  clear hin4 bd4 bm4 hd4 hb h3 d0 d1 d2 dl m0 m1 m2 ml
  go_wp2_with fail
  go_ret
  exact ⟨rfl, hin5.bel⟩
end Gus
end
section
/- The items of a dense matrix's sparse form, in order; results of both Parts together. -/
namespace Gus
open Go Go.RowKit Go.Proofs
theorem itemsF_append : ∀ (A B : List (List Ent)) (i : Nat), itemsF i (A ++ B) = itemsF i A ++ itemsF (i + A.length) B
  | [], B, i => by simp [itemsF]
  | x :: A, B, i => by
    rw [List.cons_append, itemsF, itemsF, itemsF_append A B (i + 1), List.append_assoc, List.length_cons, show i + 1 + A.length = i + (A.length + 1) by omega]
theorem mrows_succ (r c : Nat) (f : Nat → Nat → Rat) : mrows (r + 1) c f = mrows r c f ++ [rowOf (f r) c] := by
  unfold mrows rowsL
  rw [List.range_succ, List.map_append, List.map_singleton]
/-- the items add up to the matrix -/
theorem foldA_items (r c : Nat) (f : Nat → Nat → Rat) {i k : Nat} (hi : i < r) (hk : k < c) : foldA (fun _ _ => 0) (items r c f) i k = f i k := by
  rw [foldA_at, Rat.zero_add]
  have := sumAt_items (r := r) (c := c) (f := f) (fun a b => (a, b)) (fun _ _ q => q) (fun _ _ _ _ e => ⟨congrArg Prod.fst e, congrArg Prod.snd e⟩) i k hi hk rfl
  simpa using this
/-- what sparses.Part gives, whether or not the indices are in range -/
def PRes (bad : Bool) (nr nc : Nat) (F : Nat → Nat → Rat) (w : World) (v : Value) (e : Int) : Prop :=
  (∃ pn pm pa pl pk, v = .agg #[.int .i64 pn, .int .i64 pm, .slice pa pl pk]) ∧ ((bad = true ∧ e = 1 ∧ v = zeroSp) ∨ (bad = false ∧ e = 0 ∧ SpM w v nr nc F))
def DRes (bad : Bool) (nr nc : Nat) (F : Nat → Nat → Rat) (w : World) (v : Value) (e : Int) : Prop :=
  (∃ pn pm pa pl pk, v = .agg #[.int .i64 pn, .int .i64 pm, .slice pa pl pk]) ∧ ((bad = true ∧ e = 1 ∧ v = zeroSp) ∨ (bad = false ∧ e = 0 ∧ MatAt w v nr nc (dense nr nc F)))
theorem PRes.call {bad : Bool} {nr nc : Nat} {F : Nat → Nat → Rat} {w w' : World} {v : Value} {e : Int} (h : PRes bad nr nc F w v e) (hb : Below w.heap.size w w') : PRes bad nr nc F w' v e :=
  ⟨h.1, h.2.imp id fun h => ⟨h.1, h.2.1, h.2.2.call hb⟩⟩
theorem DRes.call {bad : Bool} {nr nc : Nat} {F : Nat → Nat → Rat} {w w' : World} {v : Value} {e : Int} (h : DRes bad nr nc F w v e) (hb : Below w.heap.size w w') : DRes bad nr nc F w' v e :=
  ⟨h.1, h.2.imp id fun h => ⟨h.1, h.2.1, h.2.2.call hb⟩⟩
theorem eq_res {bad : Bool} {nr nc : Nat} {F : Nat → Nat → Rat} {w : World} {s m : Value} {e f : Int} (h1 : PRes bad nr nc F w s e) (h2 : DRes bad nr nc F w m f) (hr : nr ≤ 64) (hc : nc ≤ 64) :
    Calls Tryz.prog 40 #[s, .int .i64 e, m, .int .i64 f] w fun e w' => e = .returned (.bool true) ∧ Below w.heap.size w w' := by
  rcases h1.2 with ⟨hb, rfl, rfl⟩ | ⟨hb, rfl, h3⟩
  · rcases h2.2 with ⟨_, rfl, rfl⟩ | ⟨hb2, _, _⟩
    · exact eq_bad w 1 (by decide) _ _ _ _ _
    · rw [hb] at hb2; cases hb2
  · rcases h2.2 with ⟨hb2, _, _⟩ | ⟨_, rfl, h4⟩
    · rw [hb] at hb2; cases hb2
    · exact eq_ok w s m nr nc F h3 h4 hr hc
end Gus
end
section
/- mats.all of two valid matrices; mats.each. -/
namespace Gus
open Go Go.RowKit Go.Proofs
set_option maxRecDepth 100000 in
set_option maxHeartbeats 2000000 in
theorem mall_two (w : World) (b r c r' c' n k n' k' : Nat) (a a' : Option Addr) (hB : Bx w b 78 [.int .i64 r, .int .i64 c, .slice a n k, .int .i64 r', .int .i64 c', .slice a' n' k']) (h1 : checkM r c n = 0) (h2 : checkM r' c' n' = 0) :
    Calls Tryz.prog 106 #[.slice (some ⟨b, 0, none⟩) 2 2] w fun e w' => e = .returned (.int .i64 0) ∧ Below w.heap.size w w' := by
  have c1 := fun W => mcheck_any r c a n k W
  have c2 := fun W => mcheck_any r' c' a' n' k' W
  rw [h1] at c1
  rw [h2] at c2
  have HB := Lib.hid hB
  have hbw := hB.lt
  clear h1 h2 hB
  go_enter Tryz.func106, Tryz.ntmps106
  go_wp2_with fail
  go_loopw [8] (fun v8 wr => ∃ p : Nat, p ≤ 2 ∧ v8 = .int .i64 p ∧ In w.heap.size w wr) (fun v8 _ => 2 - (RowKit.intOf v8).toNat)
  case atStart => exact ⟨0, by decide, rfl, In.self _⟩
  case round =>
    obtain ⟨p, hp, rfl, hin⟩ := hrel
    have hbr : b < wr.heap.size := by have := hin.siz; omega
    have x0 := hin.cell b 0 hbw
    have x1 := hin.cell b 1 hbw
    have x2 := hin.cell b 2 hbw
    have x3 := hin.cell b 3 hbw
    have x4 := hin.cell b 4 hbw
    have x5 := hin.cell b 5 hbw
    rw [HB.out.c0] at x0
    rw [HB.out.c1] at x1
    rw [HB.out.c2] at x2
    rw [HB.out.c3] at x3
    rw [HB.out.c4] at x4
    rw [HB.out.c5] at x5
    match p, hp with
    | 0, _ =>
      go_wp2_with fail
      ((with_reducible refine (c1 _).mono ?_))
      rintro e w2 ⟨rfl, hb⟩
      have hin2 := (hin.alloc (.cells #[.int .i64 r, .int .i64 c, .slice a n k] 78)).call hb
      clear hb hin x0 x1 x2 x3 x4 x5
      go_wp2_with fail
      exact ⟨⟨1, by decide, rfl, hin2⟩, by simp [RowKit.intOf]⟩
    | 1, _ =>
      go_wp2_with fail
      ((with_reducible refine (c2 _).mono ?_))
      rintro e w2 ⟨rfl, hb⟩
      have hin2 := (hin.alloc (.cells #[.int .i64 r', .int .i64 c', .slice a' n' k'] 78)).call hb
      clear hb hin x0 x1 x2 x3 x4 x5
      go_wp2_with fail
      exact ⟨⟨2, by decide, rfl, hin2⟩, by simp [RowKit.intOf]⟩
    | 2, _ =>
      clear x0 x1 x2 x3 x4 x5
      go_wp2_with fail
      go_ret
      exact ⟨rfl, hin.bel⟩
end Gus
end
section
/- mats.each of two valid matrices. -/
namespace Gus
open Go Go.RowKit Go.Proofs
set_option maxRecDepth 100000 in
set_option maxHeartbeats 2000000 in
theorem each1_any (W : World) (bf bx by_ r c n k' m l i k gf : Nat) (cbf : Array Value) (a a' : Option Addr) (qs ps : List Rat) (z : Rat) (eg : ∀ args w, (callFunc gf args).run Tryz.prog w = .ok (.enter gf args) w) (hF : Bx W bf 143 [.func (.func gf) #[] cbf]) (hX : Bx W bx 78 [.int .i64 r, .int .i64 c, .slice a n k']) (hY : Bx W by_ 78 [.int .i64 r, .int .i64 c, .slice a' m l])
    (hx : MatAt W (.agg #[.int .i64 r, .int .i64 c, .slice a n k']) r c qs) (hy : MatAt W (.agg #[.int .i64 r, .int .i64 c, .slice a' m l]) r c ps) (hi : i < r) (hk : k < c) (hr : r ≤ 2048) (hc : c ≤ 2048)
    (hop : ∀ W2, In W.heap.size W W2 → Calls Tryz.prog gf (#[fracV (mvals c qs i k), fracV (mvals c ps i k)] ++ cbf) W2 fun e w' => e = .returned (fracV z) ∧ Below W2.heap.size W2 w') :
    Calls Tryz.prog 150 #[.int .i64 i, .int .i64 k, .pointer (some ⟨bf, 0, none⟩), .pointer (some ⟨bx, 0, none⟩), .pointer (some ⟨by_, 0, none⟩)] W fun e w' => e = .returned (fracV z) ∧ Below W.heap.size W w' := by
  have h1 := fun W2 (hb : Below W.heap.size W W2) => mel_any W2 _ r c i k qs (hx.call hb) hi hk hr hc
  have h2 := fun W2 (hb : Below W.heap.size W W2) => mel_any W2 _ r c i k ps (hy.call hb) hi hk hr hc
  unfold mvals at hop
  obtain ⟨x, hxx⟩ : ∃ x, x = qs.getD (i * c + k) 0 := ⟨_, rfl⟩
  obtain ⟨y, hyy⟩ : ∃ y, y = ps.getD (i * c + k) 0 := ⟨_, rfl⟩
  rw [← hxx] at h1 hop
  rw [← hyy] at h2 hop
  obtain ⟨Z, hZ⟩ : ∃ Z, Z = W.heap.size := ⟨_, rfl⟩
  have HX := Lib.hid hZ
  have H1 := Lib.hid h1
  have H2 := Lib.hid h2
  have H3 := Lib.hid hop
  clear hx hy hxx hyy h1 h2 hop
  go_enter Tryz.func150, Tryz.ntmps150
  go_upto_region 1 with fail
  obtain ⟨o, ho⟩ : ∃ o : Obj, o = .cells #[.int .u64 0, .string ⟨#[]⟩, .bool false, .int .u64 0, .string ⟨#[]⟩] 56 := ⟨_, rfl⟩
  have bq := Bx.new_at W #[.int .u64 0, .string ⟨#[]⟩, .bool false, .int .u64 0, .string ⟨#[]⟩] 56 hZ
  rw [← ho] at bq ⊢
  have hin : In Z W (W.alloc o) := by rw [hZ]; exact (In.self W).alloc o
  replace hF := hF.alloc o
  replace hX := hX.alloc o
  replace hY := hY.alloc o
  rw [← hZ]
  clear hZ ho
  generalize W.alloc o = W1 at *
  have f0 := hF.c0
  have fl := hF.lt
  have x0 := hX.c0
  have x1 := hX.c1
  have x2 := hX.c2
  have xl := hX.lt
  have y0 := hY.c0
  have y1 := hY.c1
  have y2 := hY.c2
  have yl := hY.lt
  have h1 := fun W2 (h : In W1.heap.size W1 W2) => H1.out W2 (by rw [← HX.out]; exact (hin.call h.bel).bel)
  have h2 := fun W2 (h : In W1.heap.size W1 W2) => H2.out W2 (by rw [← HX.out]; exact (hin.call h.bel).bel)
  have h3 := fun W2 (h : In W1.heap.size W1 W2) => H3.out W2 (by rw [← HX.out]; exact hin.call h.bel)
  clear hF hX hY
  have h := In.self W1
  have hcc := hc
  have hc := h.cell
  refine wp_region_flow 10 (by kernel_rfl) (by kernel_rfl) (fun _ _ d _ _ h => by cases d <;> exact h) ?_; simp only [List.take_succ_cons, List.take_zero, List.drop_succ_cons, List.drop_zero]; simp only [putAll, Act.put, List.setIfInBounds_toArray, List.set]; (try simp only [Nat.reduceAdd]); (try simp only [Nat.zero_add]); (repeat (first | ((with_reducible refine flow_float (v := ?_) ?_ ?_ ?_); rotate_left 1; (focus (with_reducible rfl)); (focus (intro u w1 hw hd w2; (try simp only [depH] at hd); (try simp only [ext] at hd); (try simp only [extU] at hd); (try simp only [Nat.reduceAdd] at hd); (try simp only [Nat.reduceEqDiff] at hd); (try simp only [reduceIte] at hd); (try simp only [if_true] at hd); (try simp only [if_false] at hd); (try simp only [and_true] at hd); (try simp only [true_and] at hd); go_simp; exact rfl))) | ((with_reducible refine flow_pure0 (v := ?_) ?_ ?_ ?_ ?_); rotate_left 1; (focus (with_reducible rfl)); (focus rfl); (focus (intro u w1 hw hd; (try simp only [depH] at hd); (try simp only [ext] at hd); (try simp only [extU] at hd); (try simp only [Nat.reduceAdd] at hd); (try simp only [Nat.reduceEqDiff] at hd); (try simp only [reduceIte] at hd); (try simp only [if_true] at hd); (try simp only [if_false] at hd); (try simp only [and_true] at hd); (try simp only [true_and] at hd); have hc' := hw.cell; go_simp; exact rfl))) | ((with_reducible refine flow_skipg (j := ?_) (b := ?_) ?_ ?_ ?_); rotate_left 2; (focus (with_reducible rfl)); (focus (intro u w1 hw hd; (try simp only [depH] at hd); (try simp only [ext] at hd); (try simp only [extU] at hd); (try simp only [Nat.reduceAdd] at hd); (try simp only [Nat.reduceEqDiff] at hd); (try simp only [reduceIte] at hd); (try simp only [if_true] at hd); (try simp only [if_false] at hd); (try simp only [and_true] at hd); (try simp only [true_and] at hd); simp [yielded, hd]; done))) | ((with_reducible refine flow_pureg (v := ?_) (j := ?_) (b := ?_) ?_ ?_ ?_ ?_); rotate_left 3; (focus (with_reducible rfl)); (focus (intro u w1 hw hd; (try simp only [depH] at hd); (try simp only [ext] at hd); (try simp only [extU] at hd); (try simp only [Nat.reduceAdd] at hd); (try simp only [Nat.reduceEqDiff] at hd); (try simp only [reduceIte] at hd); (try simp only [if_true] at hd); (try simp only [if_false] at hd); (try simp only [and_true] at hd); (try simp only [true_and] at hd); simp [yielded, hd]; done)); (focus (intro u w1 hw hd; (try simp only [depH] at hd); (try simp only [ext] at hd); (try simp only [extU] at hd); (try simp only [Nat.reduceAdd] at hd); (try simp only [Nat.reduceEqDiff] at hd); (try simp only [reduceIte] at hd); (try simp only [if_true] at hd); (try simp only [if_false] at hd); (try simp only [and_true] at hd); (try simp only [true_and] at hd); have hc' := hw.cell; go_simp; exact rfl))) | ((with_reducible refine flow_alloc (t := ?_) (zs := ?_) ?_ ?_ ?_ ?_); rotate_left 2; (focus (with_reducible rfl)); (focus rfl); (focus (intro u w1; go_simp; exact rfl))) | ((with_reducible refine flow_pure0 (v := ?_) ?_ ?_ ?_ ?_); rotate_left 1; (focus (with_reducible rfl)); (focus rfl); (focus (intro u w1 hw hd; (try simp only [depH] at hd); (try simp only [ext] at hd); (try simp only [extU] at hd); (try simp only [Nat.reduceAdd] at hd); (try simp only [Nat.reduceEqDiff] at hd); (try simp only [reduceIte] at hd); (try simp only [if_true] at hd); (try simp only [if_false] at hd); (try simp only [and_true] at hd); (try simp only [true_and] at hd); have hc' := hw.cell; go_simp; go_at_call 98; ((with_reducible refine (h1 _ hw.ins).mono ?_)); rintro e w'' ⟨rfl, hb⟩; refine ⟨?_, hb⟩; exact rfl))) | ((with_reducible refine flow_pureg (v := ?_) (j := ?_) (b := ?_) ?_ ?_ ?_ ?_); rotate_left 3; (focus (with_reducible rfl)); (focus (intro u w1 hw hd; (try simp only [depH] at hd); (try simp only [ext] at hd); (try simp only [extU] at hd); (try simp only [Nat.reduceAdd] at hd); (try simp only [Nat.reduceEqDiff] at hd); (try simp only [reduceIte] at hd); (try simp only [if_true] at hd); (try simp only [if_false] at hd); (try simp only [and_true] at hd); (try simp only [true_and] at hd); simp [yielded, hd]; done)); (focus (intro u w1 hw hd; (try simp only [depH] at hd); (try simp only [ext] at hd); (try simp only [extU] at hd); (try simp only [Nat.reduceAdd] at hd); (try simp only [Nat.reduceEqDiff] at hd); (try simp only [reduceIte] at hd); (try simp only [if_true] at hd); (try simp only [if_false] at hd); (try simp only [and_true] at hd); (try simp only [true_and] at hd); have hc' := hw.cell; go_simp; go_at_call 98; ((with_reducible refine (h1 _ hw.ins).mono ?_)); rintro e w'' ⟨rfl, hb⟩; refine ⟨?_, hb⟩; exact rfl))) | ((with_reducible refine flow_pure0 (v := ?_) ?_ ?_ ?_ ?_); rotate_left 1; (focus (with_reducible rfl)); (focus rfl); (focus (intro u w1 hw hd; (try simp only [depH] at hd); (try simp only [ext] at hd); (try simp only [extU] at hd); (try simp only [Nat.reduceAdd] at hd); (try simp only [Nat.reduceEqDiff] at hd); (try simp only [reduceIte] at hd); (try simp only [if_true] at hd); (try simp only [if_false] at hd); (try simp only [and_true] at hd); (try simp only [true_and] at hd); have hc' := hw.cell; go_simp; go_at_call 98; ((with_reducible refine (h2 _ hw.ins).mono ?_)); rintro e w'' ⟨rfl, hb⟩; refine ⟨?_, hb⟩; exact rfl))) | ((with_reducible refine flow_pureg (v := ?_) (j := ?_) (b := ?_) ?_ ?_ ?_ ?_); rotate_left 3; (focus (with_reducible rfl)); (focus (intro u w1 hw hd; (try simp only [depH] at hd); (try simp only [ext] at hd); (try simp only [extU] at hd); (try simp only [Nat.reduceAdd] at hd); (try simp only [Nat.reduceEqDiff] at hd); (try simp only [reduceIte] at hd); (try simp only [if_true] at hd); (try simp only [if_false] at hd); (try simp only [and_true] at hd); (try simp only [true_and] at hd); simp [yielded, hd]; done)); (focus (intro u w1 hw hd; (try simp only [depH] at hd); (try simp only [ext] at hd); (try simp only [extU] at hd); (try simp only [Nat.reduceAdd] at hd); (try simp only [Nat.reduceEqDiff] at hd); (try simp only [reduceIte] at hd); (try simp only [if_true] at hd); (try simp only [if_false] at hd); (try simp only [and_true] at hd); (try simp only [true_and] at hd); have hc' := hw.cell; go_simp; go_at_call 98; ((with_reducible refine (h2 _ hw.ins).mono ?_)); rintro e w'' ⟨rfl, hb⟩; refine ⟨?_, hb⟩; exact rfl)))))
  (with_reducible refine flow_pure0 (v := fracV z) ?_ ?_ ?_ ?_)
  case refine_1 => with_reducible rfl
  case refine_2 => rfl
  case refine_3 =>
    intro u w1 hw hd
    (try simp only [depH] at hd); (try simp only [ext] at hd); (try simp only [extU] at hd); (try simp only [Nat.reduceAdd] at hd); (try simp only [Nat.reduceEqDiff] at hd); (try simp only [reduceIte] at hd); (try simp only [if_true] at hd); (try simp only [if_false] at hd); (try simp only [and_true] at hd); (try simp only [true_and] at hd)
    have hc' := hw.cell
    go_simp
    refine (h3 _ hw.ins).mono ?_
    rintro e w'' ⟨rfl, hb⟩
    exact ⟨rfl, hb⟩
  (try clear hc hf h); intro u w' h ha hdi; replace h := h.ins; (try simp only [World.size_alloc] at h); (try dsimp only at ha); (repeat rw [World.size_alloc] at ha); (try simp only [allH] at ha); (try simp only [ext] at ha); (try simp only [extU] at ha); (try simp only [Nat.reduceAdd] at ha); (try simp only [Nat.reduceEqDiff] at ha); (try simp only [reduceIte] at ha); (try simp only [if_true] at ha); (try simp only [if_false] at ha); (try simp only [and_true] at ha); (try simp only [true_and] at ha); have hc := h.cell; have hf := h.frozen
  (try obtain ha := ha); (try dsimp only);  simp only [ha]; clear ha hdi 
  replace hin := hin.call h.bel
  replace bq := bq.call h.bel
  clear h hc hf f0 fl x0 x1 x2 xl y0 y1 y2 yl h1 h2 h3
  ((obtain ⟨A1, A2, A3, A4, A5, hA⟩ : ∃ A1 A2 A3 A4 A5, fracV z = .agg #[.int .u64 A1, .string A2, .bool A3, .int .u64 A4, .string A5] := ⟨_, _, _, _, _, rfl⟩);
              ((try rw [hA]));
              (have HA := Lib.hid hA);
              (clear hA);
              (have q0 := bq.c0);
              (have q1 := bq.c1);
              (have q2 := bq.c2);
              (have q3 := bq.c3);
              (have q4 := bq.c4);
              (have f0 := bq.frozen 0);
              (have f1 := bq.frozen 1);
              (have f2 := bq.frozen 2);
              (have f3 := bq.frozen 3);
              (have f4 := bq.frozen 4);
              (have ql := bq.lt);
              (have K1 := Lib.hid ((((((bq.set 0 (.int .u64 A1)).set 1 (.string A2)).set 2 (.bool A3)).set 3 (.int .u64 A4)).set 4 (.string A5))));
              (have K2 := Lib.hid ((((((hin.setCell (p := ⟨Z, 0, none⟩) (by first | (simp; done) | (have := HX.out; simp; omega)) (.int .u64 A1)).setCell (p := ⟨Z, 1, none⟩) (by first | (simp; done) | (have := HX.out; simp; omega)) (.string A2)).setCell (p := ⟨Z, 2, none⟩) (by first | (simp; done) | (have := HX.out; simp; omega)) (.bool A3)).setCell (p := ⟨Z, 3, none⟩) (by first | (simp; done) | (have := HX.out; simp; omega)) (.int .u64 A4)).setCell (p := ⟨Z, 4, none⟩) (by first | (simp; done) | (have := HX.out; simp; omega)) (.string A5))));
              (clear bq hin);
              (go_wp2_with fail);
              (have k1 := K1.out);
              (have k2 := K2.out);
              (clear q0 q1 q2 q3 q4 f0 f1 f2 f3 f4 ql K1 K2);
              (generalize (((((w'.setCell ⟨Z, 0, none⟩ (.int .u64 A1)).setCell ⟨Z, 1, none⟩ (.string A2)).setCell ⟨Z, 2, none⟩ (.bool A3)).setCell ⟨Z, 3, none⟩ (.int .u64 A4)).setCell ⟨Z, 4, none⟩ (.string A5)) = W5 at *);
              (have e0 : W5.cell? ⟨Z, 0, none⟩ = some (.int .u64 A1) := k1.cell 0);
              (have e1 : W5.cell? ⟨Z, 1, none⟩ = some (.string A2) := k1.cell 1);
              (have e2 : W5.cell? ⟨Z, 2, none⟩ = some (.bool A3) := k1.cell 2);
              (have e3 : W5.cell? ⟨Z, 3, none⟩ = some (.int .u64 A4) := k1.cell 3);
              (have e4 : W5.cell? ⟨Z, 4, none⟩ = some (.string A5) := k1.cell 4);
              (have hz := k2.bel);
              (have hA := HA.out);
              (refine bodyPost_ret (v := .agg #[.int .u64 A1, .string A2, .bool A3, .int .u64 A4, .string A5]) ?_ rfl ⟨by rw [hA], by rw [← HX.out]; exact hz⟩);
              (simp [results, Tryz.results150, go_sem, e0, e1, e2, e3, e4]))
end Gus
end
section
/- mats.each. -/
namespace Gus
open Go Go.RowKit Go.Proofs
def sizesDiffer (r c r' c' : Nat) : Bool := !(decide (r = r') && decide (c = c'))
set_option maxRecDepth 100000 in
set_option maxHeartbeats 4000000 in
theorem meach_any (op : Rat → Rat → Rat) (w : World) (x y : Value) (r c r' c' gf : Nat) (cbf : Array Value) (qs ps : List Rat) (hx : MatAt w x r c qs) (hy : MatAt w y r' c' ps) (hr : r ≤ 2048) (hc : c ≤ 2048) (hr' : r' ≤ 2048) (hc' : c' ≤ 2048) (eg : ∀ args w, (callFunc gf args).run Tryz.prog w = .ok (.enter gf args) w)
    (hop : ∀ i k W2, i < r → k < c → r = r' → c = c' → In w.heap.size w W2 → Calls Tryz.prog gf (#[fracV (mvals c qs i k), fracV (mvals c ps i k)] ++ cbf) W2 fun e w' => e = .returned (fracV (op (mvals c qs i k) (mvals c ps i k))) ∧ Below W2.heap.size W2 w') :
    Calls Tryz.prog 103 #[x, y, .func (.func gf) #[] cbf] w fun e w' => (∃ d e', e = .returned (.tuple #[d, .int .i64 e']) ∧ DRes (sizesDiffer r c r' c') r c (fun i k => op (mvals c qs i k) (mvals c ps i k)) w' d e') ∧ Below w.heap.size w w' := by
  have k1 : checkM (r : Int) c qs.length = 0 := by rw [hx.len2]; exact checkM_ok hr hc
  have k2 : checkM (r' : Int) c' ps.length = 0 := by rw [hy.len2]; exact checkM_ok hr' hc'
  have HX0 := Lib.hid hx
  have HY0 := Lib.hid hy
  obtain ⟨a, k, rfl⟩ := hx.shape
  obtain ⟨a', k', rfl⟩ := hy.shape
  have c1 := fun W b h => mall_two W b r c r' c' qs.length k ps.length k' a a' h k1 k2
  obtain ⟨n, hn⟩ : ∃ n, n = qs.length := ⟨_, rfl⟩
  obtain ⟨n', hn'⟩ : ∃ n, n = ps.length := ⟨_, rfl⟩
  rw [← hn, ← hn'] at c1
  rw [← hn] at HX0 ⊢
  rw [← hn'] at HY0 ⊢
  have eg1 : ∀ args w, (callFunc 150 args).run Tryz.prog w = .ok (.enter 150 args) w := enters_of Tryz.func150 (by kernel_rfl) rfl
  obtain ⟨X, hX⟩ : ∃ X, X = w.heap.size := ⟨_, rfl⟩
  have HX := Lib.hid hX
  have HOP := Lib.hid hop
  clear k1 k2 hn hn' hop hx hy
  go_enter Tryz.func103, Tryz.ntmps103
  go_wp2_with fail
  ((with_reducible refine (c1 _ _ ?_).mono ?_))
  · exact Bx.new_at _ _ _ (by simp)
  rintro e w2 ⟨rfl, hb⟩
  have hin := ((((((In.self w).alloc (.cells #[.int .i64 r, .int .i64 c, .slice a n k] 78)).alloc (.cells #[.int .i64 r', .int .i64 c', .slice a' n' k'] 78)).alloc (.cells #[.func (.func gf) #[] cbf] 143)).alloc (.cells #[.int .i64 0, .int .i64 0, .slice none 0 0] 78)).alloc (.cells #[.int .i64 r, .int .i64 c, .slice a n k, .int .i64 r', .int .i64 c', .slice a' n' k'] 78)).call hb
  have bx := (((((Bx.new_at w #[.int .i64 r, .int .i64 c, .slice a n k] 78 hX).alloc (.cells #[.int .i64 r', .int .i64 c', .slice a' n' k'] 78)).alloc (.cells #[.func (.func gf) #[] cbf] 143)).alloc (.cells #[.int .i64 0, .int .i64 0, .slice none 0 0] 78)).alloc (.cells #[.int .i64 r, .int .i64 c, .slice a n k, .int .i64 r', .int .i64 c', .slice a' n' k'] 78)).call hb
  have by_ := ((((Bx.new_at (w.alloc (.cells #[.int .i64 r, .int .i64 c, .slice a n k] 78)) #[.int .i64 r', .int .i64 c', .slice a' n' k'] 78 (n := X + 1) (by rw [World.size_alloc, hX])).alloc (.cells #[.func (.func gf) #[] cbf] 143)).alloc (.cells #[.int .i64 0, .int .i64 0, .slice none 0 0] 78)).alloc (.cells #[.int .i64 r, .int .i64 c, .slice a n k, .int .i64 r', .int .i64 c', .slice a' n' k'] 78)).call hb
  have bf := (((Bx.new_at ((w.alloc (.cells #[.int .i64 r, .int .i64 c, .slice a n k] 78)).alloc (.cells #[.int .i64 r', .int .i64 c', .slice a' n' k'] 78)) #[.func (.func gf) #[] cbf] 143 (n := X + 1 + 1) (by rw [World.size_alloc, World.size_alloc, hX])).alloc (.cells #[.int .i64 0, .int .i64 0, .slice none 0 0] 78)).alloc (.cells #[.int .i64 r, .int .i64 c, .slice a n k, .int .i64 r', .int .i64 c', .slice a' n' k'] 78)).call hb
  have bq := ((Bx.new_at (((w.alloc (.cells #[.int .i64 r, .int .i64 c, .slice a n k] 78)).alloc (.cells #[.int .i64 r', .int .i64 c', .slice a' n' k'] 78)).alloc (.cells #[.func (.func gf) #[] cbf] 143)) #[.int .i64 0, .int .i64 0, .slice none 0 0] 78 (n := X + 1 + 1 + 1) (by rw [World.size_alloc, World.size_alloc, World.size_alloc, hX])).alloc (.cells #[.int .i64 r, .int .i64 c, .slice a n k, .int .i64 r', .int .i64 c', .slice a' n' k'] 78)).call hb
  rw [← hX]
  clear hX hb c1
  have x0 := bx.c0
  have x1 := bx.c1
  have xl := bx.lt
  have y0 := by_.c0
  have y1 := by_.c1
  have yl := by_.lt
  by_cases he : r = r' ∧ c = c'
  · obtain ⟨rfl, rfl⟩ := he
    have hmk := make_any (fun i k => op (mvals c qs i k) (mvals c ps i k)) w2 r c 150 #[.pointer (some ⟨X + 1 + 1, 0, none⟩), .pointer (some ⟨X, 0, none⟩), .pointer (some ⟨X + 1, 0, none⟩)] eg1 hr hc (fun i j W hi hj h => by
      exact each1_any W (X + 1 + 1) X (X + 1) r c n k n' k' i j gf cbf a a' qs ps _ eg (bf.call h.bel) (bx.call h.bel) (by_.call h.bel) (HX0.out.call (hin.call h.bel).bel) (HY0.out.call (hin.call h.bel).bel) hi hj hr hc (fun W2 h2 => HOP.out i j W2 hi hj rfl rfl ((hin.call h.bel).call h2.bel)))
    go_wp2_with fail
    ((with_reducible refine hmk.mono ?_))
    rintro e w6 ⟨⟨d, rfl, hd⟩, hb⟩
    replace hin := hin.call hb
    replace bq := bq.call hb
    obtain ⟨ad, kd, rfl⟩ := hd.shape
    rw [dense_length] at hd ⊢
    obtain ⟨m, hm⟩ : ∃ m, m = r * c := ⟨_, rfl⟩
    rw [← hm] at hd ⊢
    clear hb hmk x0 x1 xl y0 y1 yl hm bx by_ bf
    ((have K5 := Lib.hid (hd.put3 (p' := ((r : Nat) : Int)) (q' := ((c : Nat) : Int)) (ao' := ad) (n' := m) (k' := kd) bq));
              (have r0 := bq.c0);
              (have r1 := bq.c1);
              (have r2 := bq.c2);
              (have f0 := bq.frozen 0);
              (have f1 := bq.frozen 1);
              (have f2 := bq.frozen 2);
              (have ql := bq.lt);
              (have K1 := Lib.hid (((bq.set 0 (.int .i64 ((r : Nat) : Int))).set 1 (.int .i64 ((c : Nat) : Int))).set 2 (.slice ad m kd)));
              (have K2 := Lib.hid (((hin.setCell (p := ⟨(X + 1 + 1 + 1), 0, none⟩) (by have := HX.out; simp; omega) (.int .i64 ((r : Nat) : Int))).setCell (p := ⟨(X + 1 + 1 + 1), 1, none⟩) (by have := HX.out; simp; omega) (.int .i64 ((c : Nat) : Int))).setCell (p := ⟨(X + 1 + 1 + 1), 2, none⟩) (by have := HX.out; simp; omega) (.slice ad m kd)));
              (clear bq hin hd);
              (go_wp2_with fail);
              (have k1 := K1.out);
              (have k2 := K2.out);
              (have hm := K5.out);
              (clear r0 r1 r2 f0 f1 f2 ql K1 K2 K5);
              (generalize (((w6.setCell ⟨(X + 1 + 1 + 1), 0, none⟩ (.int .i64 ((r : Nat) : Int))).setCell ⟨(X + 1 + 1 + 1), 1, none⟩ (.int .i64 ((c : Nat) : Int))).setCell ⟨(X + 1 + 1 + 1), 2, none⟩ (.slice ad m kd)) = W9 at *);
              (have e0 : W9.cell? ⟨(X + 1 + 1 + 1), 0, none⟩ = some (.int .i64 ((r : Nat) : Int)) := k1.cell 0);
              (have e1 : W9.cell? ⟨(X + 1 + 1 + 1), 1, none⟩ = some (.int .i64 ((c : Nat) : Int)) := k1.cell 1);
              (have e2 : W9.cell? ⟨(X + 1 + 1 + 1), 2, none⟩ = some (.slice ad m kd) := k1.cell 2);
              (have hz := k2.bel);
              (refine bodyPost_ret (v := .tuple #[.agg #[.int .i64 ((r : Nat) : Int), .int .i64 ((c : Nat) : Int), .slice ad m kd], .int .i64 0]) ?_ rfl ⟨⟨_, _, rfl, ⟨_, _, _, _, _, rfl⟩, .inr ⟨by simp [sizesDiffer], rfl, hm⟩⟩, hz⟩);
              (simp [results, Tryz.results103, go_sem, e0, e1, e2]))
  · have HSD : Hid (sizesDiffer r c r' c' = true) := Lib.hid (by
      unfold sizesDiffer
      by_cases h1 : r = r'
      · have h2 : ¬ c = c' := fun h => he ⟨h1, h⟩
        simp [h2]
      · simp [h1])
    by_cases h1 : r = r'
    · have h2 : ((c : Int) != c') = true := by
        have : ¬ (c : Int) = c' := fun h => he ⟨h1, by omega⟩
        simpa using this
      have h3 : ((r : Int) != r') = false := by rw [h1]; simp
      clear he h1
      ((have r0 := bq.c0);
              (have r1 := bq.c1);
              (have r2 := bq.c2);
              (have f0 := bq.frozen 0);
              (have f1 := bq.frozen 1);
              (have f2 := bq.frozen 2);
              (have hrl := bq.lt);
              (have H1 := Lib.hid (((bq.set 0 (.int .i64 0)).set 1 (.int .i64 0)).set 2 (.slice none 0 0)));
              (have H2 := Lib.hid (((hin.setCell (p := ⟨(X + 1 + 1 + 1), 0, none⟩) (by have := HX.out; simp; omega) (.int .i64 0)).setCell (p := ⟨(X + 1 + 1 + 1), 1, none⟩) (by have := HX.out; simp; omega) (.int .i64 0)).setCell (p := ⟨(X + 1 + 1 + 1), 2, none⟩) (by have := HX.out; simp; omega) (.slice none 0 0)));
              (clear bq hin bx);
              (go_wp2_with fail);
              (have g1 := H1.out);
              (have g2 := H2.out);
              (clear H1 H2 r0 r1 r2 f0 f1 f2 hrl);
              (generalize ((w2.setCell ⟨(X + 1 + 1 + 1), 0, none⟩ (.int .i64 0)).setCell ⟨(X + 1 + 1 + 1), 1, none⟩ (.int .i64 0)).setCell ⟨(X + 1 + 1 + 1), 2, none⟩ (.slice none 0 0) = W5 at *);
              (have e0 : W5.cell? ⟨(X + 1 + 1 + 1), 0, none⟩ = some (.int .i64 0) := g1.cell 0);
              (have e1 : W5.cell? ⟨(X + 1 + 1 + 1), 1, none⟩ = some (.int .i64 0) := g1.cell 1);
              (have e2 : W5.cell? ⟨(X + 1 + 1 + 1), 2, none⟩ = some (.slice none 0 0) := g1.cell 2);
              (have hz := g2.bel);
              (refine bodyPost_ret (v := .tuple #[zeroSp, .int .i64 1]) ?_ rfl ⟨⟨_, _, rfl, ⟨_, _, _, _, _, rfl⟩, .inl ⟨HSD.out, rfl, rfl⟩⟩, hz⟩);
              (simp [results, Tryz.results103, go_sem, e0, e1, e2]))
    · have h3 : ((r : Int) != r') = true := by
        have : ¬ (r : Int) = r' := by omega
        simpa using this
      clear he h1
      ((have r0 := bq.c0);
              (have r1 := bq.c1);
              (have r2 := bq.c2);
              (have f0 := bq.frozen 0);
              (have f1 := bq.frozen 1);
              (have f2 := bq.frozen 2);
              (have hrl := bq.lt);
              (have H1 := Lib.hid (((bq.set 0 (.int .i64 0)).set 1 (.int .i64 0)).set 2 (.slice none 0 0)));
              (have H2 := Lib.hid (((hin.setCell (p := ⟨(X + 1 + 1 + 1), 0, none⟩) (by have := HX.out; simp; omega) (.int .i64 0)).setCell (p := ⟨(X + 1 + 1 + 1), 1, none⟩) (by have := HX.out; simp; omega) (.int .i64 0)).setCell (p := ⟨(X + 1 + 1 + 1), 2, none⟩) (by have := HX.out; simp; omega) (.slice none 0 0)));
              (clear bq hin bx);
              (go_wp2_with fail);
              (have g1 := H1.out);
              (have g2 := H2.out);
              (clear H1 H2 r0 r1 r2 f0 f1 f2 hrl);
              (generalize ((w2.setCell ⟨(X + 1 + 1 + 1), 0, none⟩ (.int .i64 0)).setCell ⟨(X + 1 + 1 + 1), 1, none⟩ (.int .i64 0)).setCell ⟨(X + 1 + 1 + 1), 2, none⟩ (.slice none 0 0) = W5 at *);
              (have e0 : W5.cell? ⟨(X + 1 + 1 + 1), 0, none⟩ = some (.int .i64 0) := g1.cell 0);
              (have e1 : W5.cell? ⟨(X + 1 + 1 + 1), 1, none⟩ = some (.int .i64 0) := g1.cell 1);
              (have e2 : W5.cell? ⟨(X + 1 + 1 + 1), 2, none⟩ = some (.slice none 0 0) := g1.cell 2);
              (have hz := g2.bel);
              (refine bodyPost_ret (v := .tuple #[zeroSp, .int .i64 1]) ?_ rfl ⟨⟨_, _, rfl, ⟨_, _, _, _, _, rfl⟩, .inl ⟨HSD.out, rfl, rfl⟩⟩, hz⟩);
              (simp [results, Tryz.results103, go_sem, e0, e1, e2]))
end Gus
end
section
/- mats.Add, mats.Scale, mats.Turn. -/
namespace Gus
open Go Go.RowKit Go.Proofs
theorem DRes.put3 {bad : Bool} {nr nc : Nat} {F : Nat → Nat → Rat} {w : World} {v : Value} {e : Int} {n k n' k' : Nat} {p q p' q' : Int} {ao ao' : Option Addr} {S : Nat} (h : DRes bad nr nc F w v e) (hS : Bx w S 78 [.int .i64 p, .int .i64 q, .slice ao n k]) :
    DRes bad nr nc F (((w.setCell ⟨S, 0, none⟩ (.int .i64 p')).setCell ⟨S, 1, none⟩ (.int .i64 q')).setCell ⟨S, 2, none⟩ (.slice ao' n' k')) v e :=
  ⟨h.1, h.2.imp id fun h => ⟨h.1, h.2.1, h.2.2.put3 hS⟩⟩
set_option maxRecDepth 100000 in
set_option maxHeartbeats 4000000 in
theorem madd_any {j : Nat} (w : World) (x y : Value) (r c r' c' : Nat) (qs ps : List Rat) (hx : MatAt w x r c qs) (hy : MatAt w y r' c' ps) (hr : r ≤ 2048) (hc : c ≤ 2048) (hr' : r' ≤ 2048) (hc' : c' ≤ 2048) (hq : ∀ i, SzK j (qs.getD i 0)) (hp : ∀ i, SzK j (ps.getD i 0)) (hj : j + j + 1 < 17592186044416) :
    Calls Tryz.prog 45 #[x, y] w fun e w' => (∃ d e', e = .returned (.tuple #[d, .int .i64 e']) ∧ DRes (sizesDiffer r c r' c') r c (fun i k => mvals c qs i k + mvals c ps i k) w' d e') ∧ Below w.heap.size w w' := by
  have eg : ∀ args w, (callFunc 66 args).run Tryz.prog w = .ok (.enter 66 args) w := enters_of Tryz.func66 (by kernel_rfl) rfl
  have c1 := fun W (hb : Below w.heap.size w W) => meach_any (· + ·) W x y r c r' c' 66 #[] qs ps (hx.call hb) (hy.call hb) hr hc hr' hc' eg (fun i k W2 _ _ _ _ _ => fadd_any _ _ (hq _) (hp _) hj W2)
  obtain ⟨a, k, rfl⟩ := hx.shape
  obtain ⟨a', k', rfl⟩ := hy.shape
  obtain ⟨n, hn⟩ : ∃ n, n = qs.length := ⟨_, rfl⟩
  obtain ⟨n', hn'⟩ : ∃ n, n = ps.length := ⟨_, rfl⟩
  rw [← hn, ← hn'] at c1
  rw [← hn, ← hn']
  obtain ⟨X, hX⟩ : ∃ X, X = w.heap.size := ⟨_, rfl⟩
  have HX := Lib.hid hX
  clear hn hn' hx hy hq hp eg
  go_enter Tryz.func45, Tryz.ntmps45
  go_wp2_with fail
  ((with_reducible refine (c1 _ ?_).mono ?_))
  · exact ((((In.self w).alloc _).alloc _).alloc _).bel
  rintro e w2 ⟨⟨d, e', rfl, hd⟩, hb⟩
  obtain ⟨pn, pm, pa, pl, pk, rfl⟩ := hd.1
  have hin := ((((In.self w).alloc (.cells #[.int .i64 r, .int .i64 c, .slice a n k] 78)).alloc (.cells #[.int .i64 r', .int .i64 c', .slice a' n' k'] 78)).alloc (.cells #[.int .i64 0, .int .i64 0, .slice none 0 0] 78)).call hb
  have bq := (Bx.new_at ((w.alloc (.cells #[.int .i64 r, .int .i64 c, .slice a n k] 78)).alloc (.cells #[.int .i64 r', .int .i64 c', .slice a' n' k'] 78)) #[.int .i64 0, .int .i64 0, .slice none 0 0] 78 (n := X + 1 + 1) (by rw [World.size_alloc, World.size_alloc, hX])).call hb
  rw [← hX]
  clear hX hb c1
  ((have K5 := Lib.hid (hd.put3 (p' := pn) (q' := pm) (ao' := pa) (n' := pl) (k' := pk) bq));
              (have r0 := bq.c0);
              (have r1 := bq.c1);
              (have r2 := bq.c2);
              (have f0 := bq.frozen 0);
              (have f1 := bq.frozen 1);
              (have f2 := bq.frozen 2);
              (have ql := bq.lt);
              (have K1 := Lib.hid (((bq.set 0 (.int .i64 pn)).set 1 (.int .i64 pm)).set 2 (.slice pa pl pk)));
              (have K2 := Lib.hid (((hin.setCell (p := ⟨(X + 1 + 1), 0, none⟩) (by have := HX.out; simp; omega) (.int .i64 pn)).setCell (p := ⟨(X + 1 + 1), 1, none⟩) (by have := HX.out; simp; omega) (.int .i64 pm)).setCell (p := ⟨(X + 1 + 1), 2, none⟩) (by have := HX.out; simp; omega) (.slice pa pl pk)));
              (clear bq hin hd);
              (go_wp2_with fail);
              (have k1 := K1.out);
              (have k2 := K2.out);
              (have hm := K5.out);
              (clear r0 r1 r2 f0 f1 f2 ql K1 K2 K5);
              (generalize (((w2.setCell ⟨(X + 1 + 1), 0, none⟩ (.int .i64 pn)).setCell ⟨(X + 1 + 1), 1, none⟩ (.int .i64 pm)).setCell ⟨(X + 1 + 1), 2, none⟩ (.slice pa pl pk)) = W9 at *);
              (have e0 : W9.cell? ⟨(X + 1 + 1), 0, none⟩ = some (.int .i64 pn) := k1.cell 0);
              (have e1 : W9.cell? ⟨(X + 1 + 1), 1, none⟩ = some (.int .i64 pm) := k1.cell 1);
              (have e2 : W9.cell? ⟨(X + 1 + 1), 2, none⟩ = some (.slice pa pl pk) := k1.cell 2);
              (have hz := k2.bel);
              (refine bodyPost_ret (v := .tuple #[.agg #[.int .i64 pn, .int .i64 pm, .slice pa pl pk], .int .i64 e']) ?_ rfl ⟨⟨_, _, rfl, hm⟩, hz⟩);
              (simp [results, Tryz.results45, go_sem, e0, e1, e2]))
set_option maxRecDepth 100000 in
set_option maxHeartbeats 2000000 in
theorem mscale1_any {j l : Nat} (W : World) (bc : Nat) (c x y : Rat) (hC : Bx W bc 56 (fcs c)) (hc : SzK j c) (hx : SzK l x) (hjl : j + l < 17592186044416) :
    Calls Tryz.prog 111 #[fracV x, fracV y, .pointer (some ⟨bc, 0, none⟩)] W fun e w' => e = .returned (fracV (c * x)) ∧ Below W.heap.size W w' := by
  have h1 := fmul_any c x hc hx hjl
  obtain ⟨C1, C2, C3, C4, C5, hc1, hc2⟩ : ∃ A1 A2 A3 A4 A5, fracV c = .agg #[.int .u64 A1, .string A2, .bool A3, .int .u64 A4, .string A5] ∧ fcs c = [.int .u64 A1, .string A2, .bool A3, .int .u64 A4, .string A5] := ⟨_, _, _, _, _, rfl, rfl⟩
  obtain ⟨X1, X2, X3, X4, X5, hx1⟩ : ∃ A1 A2 A3 A4 A5, fracV x = .agg #[.int .u64 A1, .string A2, .bool A3, .int .u64 A4, .string A5] := ⟨_, _, _, _, _, rfl⟩
  obtain ⟨Y1, Y2, Y3, Y4, Y5, hy1⟩ : ∃ A1 A2 A3 A4 A5, fracV y = .agg #[.int .u64 A1, .string A2, .bool A3, .int .u64 A4, .string A5] := ⟨_, _, _, _, _, rfl⟩
  rw [hc2] at hC
  rw [hc1, hx1] at h1
  rw [hx1, hy1]
  obtain ⟨z, hz⟩ : ∃ z, z = c * x := ⟨_, rfl⟩
  rw [← hz] at h1 ⊢
  obtain ⟨Z, hZ⟩ : ∃ Z, Z = W.heap.size := ⟨_, rfl⟩
  have HX := Lib.hid hZ
  have x0 := hC.c0
  have x1 := hC.c1
  have x2 := hC.c2
  have x3 := hC.c3
  have x4 := hC.c4
  have xl := hC.lt
  have HC0 := Lib.hid (hC.alloc (.cells #[.int .u64 X1, .string X2, .bool X3, .int .u64 X4, .string X5] 56))
  clear hz hc1 hc2 hx1 hy1 hC
  go_enter Tryz.func111, Tryz.ntmps111
  go_upto_region 1 with fail
  have hC3 := (HC0.out.alloc (.cells #[.int .u64 Y1, .string Y2, .bool Y3, .int .u64 Y4, .string Y5] 56)).alloc (.cells #[.int .u64 0, .string ⟨#[]⟩, .bool false, .int .u64 0, .string ⟨#[]⟩] 56)
  clear x0 x1 x2 x3 x4 xl HC0
  have x0 := hC3.c0
  have x1 := hC3.c1
  have x2 := hC3.c2
  have x3 := hC3.c3
  have x4 := hC3.c4
  have xl := hC3.lt
  clear hC3
  go_wp2_with fail
  ((with_reducible refine (h1 _).mono ?_))
  rintro e w2 ⟨rfl, hb⟩
  have hin := ((((In.self W).alloc (.cells #[.int .u64 X1, .string X2, .bool X3, .int .u64 X4, .string X5] 56)).alloc (.cells #[.int .u64 Y1, .string Y2, .bool Y3, .int .u64 Y4, .string Y5] 56)).alloc (.cells #[.int .u64 0, .string ⟨#[]⟩, .bool false, .int .u64 0, .string ⟨#[]⟩] 56)).call hb
  have bq := (Bx.new_at ((W.alloc (.cells #[.int .u64 X1, .string X2, .bool X3, .int .u64 X4, .string X5] 56)).alloc (.cells #[.int .u64 Y1, .string Y2, .bool Y3, .int .u64 Y4, .string Y5] 56)) #[.int .u64 0, .string ⟨#[]⟩, .bool false, .int .u64 0, .string ⟨#[]⟩] 56 (n := Z + 1 + 1) (by rw [World.size_alloc, World.size_alloc, hZ])).call hb
  rw [← hZ]
  clear hZ hb h1 x0 x1 x2 x3 x4 xl
  ((obtain ⟨A1, A2, A3, A4, A5, hA⟩ : ∃ A1 A2 A3 A4 A5, fracV z = .agg #[.int .u64 A1, .string A2, .bool A3, .int .u64 A4, .string A5] := ⟨_, _, _, _, _, rfl⟩);
              ((try rw [hA]));
              (have HA := Lib.hid hA);
              (clear hA);
              (have q0 := bq.c0);
              (have q1 := bq.c1);
              (have q2 := bq.c2);
              (have q3 := bq.c3);
              (have q4 := bq.c4);
              (have f0 := bq.frozen 0);
              (have f1 := bq.frozen 1);
              (have f2 := bq.frozen 2);
              (have f3 := bq.frozen 3);
              (have f4 := bq.frozen 4);
              (have ql := bq.lt);
              (have K1 := Lib.hid ((((((bq.set 0 (.int .u64 A1)).set 1 (.string A2)).set 2 (.bool A3)).set 3 (.int .u64 A4)).set 4 (.string A5))));
              (have K2 := Lib.hid ((((((hin.setCell (p := ⟨(Z + 1 + 1), 0, none⟩) (by first | (simp; done) | (have := HX.out; simp; omega)) (.int .u64 A1)).setCell (p := ⟨(Z + 1 + 1), 1, none⟩) (by first | (simp; done) | (have := HX.out; simp; omega)) (.string A2)).setCell (p := ⟨(Z + 1 + 1), 2, none⟩) (by first | (simp; done) | (have := HX.out; simp; omega)) (.bool A3)).setCell (p := ⟨(Z + 1 + 1), 3, none⟩) (by first | (simp; done) | (have := HX.out; simp; omega)) (.int .u64 A4)).setCell (p := ⟨(Z + 1 + 1), 4, none⟩) (by first | (simp; done) | (have := HX.out; simp; omega)) (.string A5))));
              (clear bq hin);
              (go_wp2_with fail);
              (have k1 := K1.out);
              (have k2 := K2.out);
              (clear q0 q1 q2 q3 q4 f0 f1 f2 f3 f4 ql K1 K2);
              (generalize (((((w2.setCell ⟨(Z + 1 + 1), 0, none⟩ (.int .u64 A1)).setCell ⟨(Z + 1 + 1), 1, none⟩ (.string A2)).setCell ⟨(Z + 1 + 1), 2, none⟩ (.bool A3)).setCell ⟨(Z + 1 + 1), 3, none⟩ (.int .u64 A4)).setCell ⟨(Z + 1 + 1), 4, none⟩ (.string A5)) = W5 at *);
              (have e0 : W5.cell? ⟨(Z + 1 + 1), 0, none⟩ = some (.int .u64 A1) := k1.cell 0);
              (have e1 : W5.cell? ⟨(Z + 1 + 1), 1, none⟩ = some (.string A2) := k1.cell 1);
              (have e2 : W5.cell? ⟨(Z + 1 + 1), 2, none⟩ = some (.bool A3) := k1.cell 2);
              (have e3 : W5.cell? ⟨(Z + 1 + 1), 3, none⟩ = some (.int .u64 A4) := k1.cell 3);
              (have e4 : W5.cell? ⟨(Z + 1 + 1), 4, none⟩ = some (.string A5) := k1.cell 4);
              (have hz := k2.bel);
              (have hA := HA.out);
              (refine bodyPost_ret (v := .agg #[.int .u64 A1, .string A2, .bool A3, .int .u64 A4, .string A5]) ?_ rfl ⟨by rw [hA], hz⟩);
              (simp [results, Tryz.results111, go_sem, e0, e1, e2, e3, e4]))
set_option maxRecDepth 100000 in
set_option maxHeartbeats 4000000 in
theorem mscale_any {j l : Nat} (w : World) (s : Rat) (x : Value) (r c : Nat) (qs : List Rat) (hx : MatAt w x r c qs) (hr : r ≤ 2048) (hc : c ≤ 2048) (hs : SzK j s) (hq : ∀ i, SzK l (qs.getD i 0)) (hj : j + l < 17592186044416) :
    Calls Tryz.prog 51 #[fracV s, x] w fun e w' => (∃ d e', e = .returned (.tuple #[d, .int .i64 e']) ∧ DRes false r c (fun i k => s * mvals c qs i k) w' d e') ∧ Below w.heap.size w w' := by
  have eg : ∀ args w, (callFunc 111 args).run Tryz.prog w = .ok (.enter 111 args) w := enters_of Tryz.func111 (by kernel_rfl) rfl
  have c1 := fun W (hb : Below w.heap.size w W) b (hB : Bx W b 56 (fcs s)) => meach_any (fun p _ => s * p) W x x r c r c 111 #[.pointer (some ⟨b, 0, none⟩)] qs qs (hx.call hb) (hx.call hb) hr hc hr hc eg (fun i k W2 _ _ _ _ h => mscale1_any W2 b s _ _ (hB.call h.bel) hs (hq _) hj)
  rw [show sizesDiffer r c r c = false by simp [sizesDiffer]] at c1
  obtain ⟨S1, S2, S3, S4, S5, hs1, hs2⟩ : ∃ A1 A2 A3 A4 A5, fracV s = .agg #[.int .u64 A1, .string A2, .bool A3, .int .u64 A4, .string A5] ∧ fcs s = [.int .u64 A1, .string A2, .bool A3, .int .u64 A4, .string A5] := ⟨_, _, _, _, _, rfl, rfl⟩
  rw [hs2] at c1
  rw [hs1]
  obtain ⟨a, k, rfl⟩ := hx.shape
  obtain ⟨n, hn⟩ : ∃ n, n = qs.length := ⟨_, rfl⟩
  rw [← hn] at c1
  rw [← hn]
  obtain ⟨X, hX⟩ : ∃ X, X = w.heap.size := ⟨_, rfl⟩
  have HX := Lib.hid hX
  clear hn hx hq eg hs1 hs2 hs
  go_enter Tryz.func51, Tryz.ntmps51
  go_wp2_with fail
  ((with_reducible refine (c1 _ ?_ _ ?_).mono ?_))
  · exact ((((In.self w).alloc _).alloc _).alloc _).bel
  · exact ((Bx.new_at w #[.int .u64 S1, .string S2, .bool S3, .int .u64 S4, .string S5] 56 rfl).alloc _).alloc _
  rintro e w2 ⟨⟨d, e', rfl, hd⟩, hb⟩
  obtain ⟨pn, pm, pa, pl, pk, rfl⟩ := hd.1
  have hin := ((((In.self w).alloc (.cells #[.int .u64 S1, .string S2, .bool S3, .int .u64 S4, .string S5] 56)).alloc (.cells #[.int .i64 r, .int .i64 c, .slice a n k] 78)).alloc (.cells #[.int .i64 0, .int .i64 0, .slice none 0 0] 78)).call hb
  have bq := (Bx.new_at ((w.alloc (.cells #[.int .u64 S1, .string S2, .bool S3, .int .u64 S4, .string S5] 56)).alloc (.cells #[.int .i64 r, .int .i64 c, .slice a n k] 78)) #[.int .i64 0, .int .i64 0, .slice none 0 0] 78 (n := X + 1 + 1) (by rw [World.size_alloc, World.size_alloc, hX])).call hb
  rw [← hX]
  clear hX hb c1
  ((have K5 := Lib.hid (hd.put3 (p' := pn) (q' := pm) (ao' := pa) (n' := pl) (k' := pk) bq));
              (have r0 := bq.c0);
              (have r1 := bq.c1);
              (have r2 := bq.c2);
              (have f0 := bq.frozen 0);
              (have f1 := bq.frozen 1);
              (have f2 := bq.frozen 2);
              (have ql := bq.lt);
              (have K1 := Lib.hid (((bq.set 0 (.int .i64 pn)).set 1 (.int .i64 pm)).set 2 (.slice pa pl pk)));
              (have K2 := Lib.hid (((hin.setCell (p := ⟨(X + 1 + 1), 0, none⟩) (by have := HX.out; simp; omega) (.int .i64 pn)).setCell (p := ⟨(X + 1 + 1), 1, none⟩) (by have := HX.out; simp; omega) (.int .i64 pm)).setCell (p := ⟨(X + 1 + 1), 2, none⟩) (by have := HX.out; simp; omega) (.slice pa pl pk)));
              (clear bq hin hd);
              (go_wp2_with fail);
              (have k1 := K1.out);
              (have k2 := K2.out);
              (have hm := K5.out);
              (clear r0 r1 r2 f0 f1 f2 ql K1 K2 K5);
              (generalize (((w2.setCell ⟨(X + 1 + 1), 0, none⟩ (.int .i64 pn)).setCell ⟨(X + 1 + 1), 1, none⟩ (.int .i64 pm)).setCell ⟨(X + 1 + 1), 2, none⟩ (.slice pa pl pk)) = W9 at *);
              (have e0 : W9.cell? ⟨(X + 1 + 1), 0, none⟩ = some (.int .i64 pn) := k1.cell 0);
              (have e1 : W9.cell? ⟨(X + 1 + 1), 1, none⟩ = some (.int .i64 pm) := k1.cell 1);
              (have e2 : W9.cell? ⟨(X + 1 + 1), 2, none⟩ = some (.slice pa pl pk) := k1.cell 2);
              (have hz := k2.bel);
              (refine bodyPost_ret (v := .tuple #[.agg #[.int .i64 pn, .int .i64 pm, .slice pa pl pk], .int .i64 e']) ?_ rfl ⟨⟨_, _, rfl, hm⟩, hz⟩);
              (simp [results, Tryz.results51, go_sem, e0, e1, e2]))
end Gus
end
section
/- mats.Turn. -/
namespace Gus
open Go Go.RowKit Go.Proofs
set_option maxRecDepth 100000 in
set_option maxHeartbeats 2000000 in
theorem mturn1_any (W : World) (bm r c n k' i k : Nat) (a : Option Addr) (qs : List Rat) (hM : Bx W bm 78 [.int .i64 r, .int .i64 c, .slice a n k']) (hm : MatAt W (.agg #[.int .i64 r, .int .i64 c, .slice a n k']) r c qs) (hi : i < r) (hk : k < c) (hr : r ≤ 2048) (hc : c ≤ 2048) :
    Calls Tryz.prog 109 #[.int .i64 k, .int .i64 i, .pointer (some ⟨bm, 0, none⟩)] W fun e w' => e = .returned (fracV (mvals c qs i k)) ∧ Below W.heap.size W w' := by
  have h1 := fun W2 (hb : Below W.heap.size W W2) => mel_any W2 _ r c i k qs (hm.call hb) hi hk hr hc
  unfold mvals
  obtain ⟨z, hz⟩ : ∃ z, z = qs.getD (i * c + k) 0 := ⟨_, rfl⟩
  rw [← hz] at h1 ⊢
  obtain ⟨Z, hZ⟩ : ∃ Z, Z = W.heap.size := ⟨_, rfl⟩
  have HX := Lib.hid hZ
  have HM := Lib.hid (hM.alloc (.cells #[.int .u64 0, .string ⟨#[]⟩, .bool false, .int .u64 0, .string ⟨#[]⟩] 56))
  clear hz hM hm
  go_enter Tryz.func109, Tryz.ntmps109
  go_upto_region 1 with fail
  have x0 := HM.out.c0
  have x1 := HM.out.c1
  have x2 := HM.out.c2
  have xl := HM.out.lt
  go_wp2_with fail
  ((with_reducible refine (h1 _ ?_).mono ?_))
  · exact ((In.self W).alloc _).bel
  rintro e w2 ⟨rfl, hb⟩
  have hin := ((In.self W).alloc (.cells #[.int .u64 0, .string ⟨#[]⟩, .bool false, .int .u64 0, .string ⟨#[]⟩] 56)).call hb
  have bq := (Bx.new_at W #[.int .u64 0, .string ⟨#[]⟩, .bool false, .int .u64 0, .string ⟨#[]⟩] 56 hZ).call hb
  rw [← hZ]
  clear hZ hb h1 x0 x1 x2 xl HM
  ((obtain ⟨A1, A2, A3, A4, A5, hA⟩ : ∃ A1 A2 A3 A4 A5, fracV z = .agg #[.int .u64 A1, .string A2, .bool A3, .int .u64 A4, .string A5] := ⟨_, _, _, _, _, rfl⟩);
              ((try rw [hA]));
              (have HA := Lib.hid hA);
              (clear hA);
              (have q0 := bq.c0);
              (have q1 := bq.c1);
              (have q2 := bq.c2);
              (have q3 := bq.c3);
              (have q4 := bq.c4);
              (have f0 := bq.frozen 0);
              (have f1 := bq.frozen 1);
              (have f2 := bq.frozen 2);
              (have f3 := bq.frozen 3);
              (have f4 := bq.frozen 4);
              (have ql := bq.lt);
              (have K1 := Lib.hid ((((((bq.set 0 (.int .u64 A1)).set 1 (.string A2)).set 2 (.bool A3)).set 3 (.int .u64 A4)).set 4 (.string A5))));
              (have K2 := Lib.hid ((((((hin.setCell (p := ⟨Z, 0, none⟩) (by first | (simp; done) | (have := HX.out; simp; omega)) (.int .u64 A1)).setCell (p := ⟨Z, 1, none⟩) (by first | (simp; done) | (have := HX.out; simp; omega)) (.string A2)).setCell (p := ⟨Z, 2, none⟩) (by first | (simp; done) | (have := HX.out; simp; omega)) (.bool A3)).setCell (p := ⟨Z, 3, none⟩) (by first | (simp; done) | (have := HX.out; simp; omega)) (.int .u64 A4)).setCell (p := ⟨Z, 4, none⟩) (by first | (simp; done) | (have := HX.out; simp; omega)) (.string A5))));
              (clear bq hin);
              (go_wp2_with fail);
              (have k1 := K1.out);
              (have k2 := K2.out);
              (clear q0 q1 q2 q3 q4 f0 f1 f2 f3 f4 ql K1 K2);
              (generalize (((((w2.setCell ⟨Z, 0, none⟩ (.int .u64 A1)).setCell ⟨Z, 1, none⟩ (.string A2)).setCell ⟨Z, 2, none⟩ (.bool A3)).setCell ⟨Z, 3, none⟩ (.int .u64 A4)).setCell ⟨Z, 4, none⟩ (.string A5)) = W5 at *);
              (have e0 : W5.cell? ⟨Z, 0, none⟩ = some (.int .u64 A1) := k1.cell 0);
              (have e1 : W5.cell? ⟨Z, 1, none⟩ = some (.string A2) := k1.cell 1);
              (have e2 : W5.cell? ⟨Z, 2, none⟩ = some (.bool A3) := k1.cell 2);
              (have e3 : W5.cell? ⟨Z, 3, none⟩ = some (.int .u64 A4) := k1.cell 3);
              (have e4 : W5.cell? ⟨Z, 4, none⟩ = some (.string A5) := k1.cell 4);
              (have hz := k2.bel);
              (have hA := HA.out);
              (refine bodyPost_ret (v := .agg #[.int .u64 A1, .string A2, .bool A3, .int .u64 A4, .string A5]) ?_ rfl ⟨by rw [hA], hz⟩);
              (simp [results, Tryz.results109, go_sem, e0, e1, e2, e3, e4]))
set_option maxRecDepth 100000 in
set_option maxHeartbeats 4000000 in
theorem mturn_any (w : World) (x : Value) (r c : Nat) (qs : List Rat) (hx : MatAt w x r c qs) (hr : r ≤ 2048) (hc : c ≤ 2048) :
    Calls Tryz.prog 49 #[x] w fun e w' => (∃ d e', e = .returned (.tuple #[d, .int .i64 e']) ∧ DRes false c r (fun k i => mvals c qs i k) w' d e') ∧ Below w.heap.size w w' := by
  have hck := fun W (sa : Option Addr) (k : Nat) => mcheck_any r c sa qs.length k W
  rw [show checkM (r : Int) c qs.length = 0 by rw [hx.len2]; exact checkM_ok hr hc] at hck
  have eg : ∀ args w, (callFunc 109 args).run Tryz.prog w = .ok (.enter 109 args) w := enters_of Tryz.func109 (by kernel_rfl) rfl
  have HM := Lib.hid hx
  obtain ⟨a, k, rfl⟩ := hx.shape
  obtain ⟨n, hn⟩ : ∃ n, n = qs.length := ⟨_, rfl⟩
  rw [← hn] at hck HM
  rw [← hn]
  obtain ⟨X, hX⟩ : ∃ X, X = w.heap.size := ⟨_, rfl⟩
  have HX := Lib.hid hX
  clear hn hx
  go_enter Tryz.func49, Tryz.ntmps49
  go_wp2_with fail
  ((with_reducible refine (hck _ _ _).mono ?_))
  rintro e w2 ⟨rfl, hb⟩
  have hin := (((In.self w).alloc (.cells #[.int .i64 r, .int .i64 c, .slice a n k] 78)).alloc (.cells #[.int .i64 0, .int .i64 0, .slice none 0 0] 78)).call hb
  have bx := ((Bx.new_at w #[.int .i64 r, .int .i64 c, .slice a n k] 78 hX).alloc (.cells #[.int .i64 0, .int .i64 0, .slice none 0 0] 78)).call hb
  have bq := (Bx.new_at (w.alloc (.cells #[.int .i64 r, .int .i64 c, .slice a n k] 78)) #[.int .i64 0, .int .i64 0, .slice none 0 0] 78 (n := X + 1) (by rw [World.size_alloc, hX])).call hb
  rw [← hX]
  clear hX hb hck
  have x0 := bx.c0
  have x1 := bx.c1
  have xl := bx.lt
  have hmk := make_any (fun k i => mvals c qs i k) w2 c r 109 #[.pointer (some ⟨X, 0, none⟩)] eg hc hr (fun i j W hi hj h => mturn1_any W X r c n k j i a qs (bx.call h.bel) (HM.out.call (hin.call h.bel).bel) hj hi hr hc)
  go_wp2_with fail
  ((with_reducible refine hmk.mono ?_))
  rintro e w6 ⟨⟨d, rfl, hd⟩, hb⟩
  replace hin := hin.call hb
  replace bq := bq.call hb
  obtain ⟨ad, kd, rfl⟩ := hd.shape
  rw [dense_length] at hd ⊢
  obtain ⟨m, hm⟩ : ∃ m, m = c * r := ⟨_, rfl⟩
  rw [← hm] at hd ⊢
  clear hb hmk x0 x1 xl hm bx
  ((have K5 := Lib.hid (hd.put3 (p' := ((c : Nat) : Int)) (q' := ((r : Nat) : Int)) (ao' := ad) (n' := m) (k' := kd) bq));
              (have r0 := bq.c0);
              (have r1 := bq.c1);
              (have r2 := bq.c2);
              (have f0 := bq.frozen 0);
              (have f1 := bq.frozen 1);
              (have f2 := bq.frozen 2);
              (have ql := bq.lt);
              (have K1 := Lib.hid (((bq.set 0 (.int .i64 ((c : Nat) : Int))).set 1 (.int .i64 ((r : Nat) : Int))).set 2 (.slice ad m kd)));
              (have K2 := Lib.hid (((hin.setCell (p := ⟨(X + 1), 0, none⟩) (by have := HX.out; simp; omega) (.int .i64 ((c : Nat) : Int))).setCell (p := ⟨(X + 1), 1, none⟩) (by have := HX.out; simp; omega) (.int .i64 ((r : Nat) : Int))).setCell (p := ⟨(X + 1), 2, none⟩) (by have := HX.out; simp; omega) (.slice ad m kd)));
              (clear bq hin hd);
              (go_wp2_with fail);
              (have k1 := K1.out);
              (have k2 := K2.out);
              (have hm := K5.out);
              (clear r0 r1 r2 f0 f1 f2 ql K1 K2 K5);
              (generalize (((w6.setCell ⟨(X + 1), 0, none⟩ (.int .i64 ((c : Nat) : Int))).setCell ⟨(X + 1), 1, none⟩ (.int .i64 ((r : Nat) : Int))).setCell ⟨(X + 1), 2, none⟩ (.slice ad m kd)) = W9 at *);
              (have e0 : W9.cell? ⟨(X + 1), 0, none⟩ = some (.int .i64 ((c : Nat) : Int)) := k1.cell 0);
              (have e1 : W9.cell? ⟨(X + 1), 1, none⟩ = some (.int .i64 ((r : Nat) : Int)) := k1.cell 1);
              (have e2 : W9.cell? ⟨(X + 1), 2, none⟩ = some (.slice ad m kd) := k1.cell 2);
              (have hz := k2.bel);
              (refine bodyPost_ret (v := .tuple #[.agg #[.int .i64 ((c : Nat) : Int), .int .i64 ((r : Nat) : Int), .slice ad m kd], .int .i64 0]) ?_ rfl ⟨⟨_, _, rfl, ⟨_, _, _, _, _, rfl⟩, .inr ⟨rfl, rfl, hm⟩⟩, hz⟩);
              (simp [results, Tryz.results49, go_sem, e0, e1, e2]))
end Gus
end
