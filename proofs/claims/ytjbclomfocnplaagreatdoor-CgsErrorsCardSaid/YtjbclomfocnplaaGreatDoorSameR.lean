/- Proved here: parts of the proof: Same SameB Cnt Of One CrdA Mtx Sml Ofd Msm Dns Dnb Lof Sma Arg Mak Bin Idx Prt PrtB PrtC At Dia Itm Eql Pur Mal Mea Meb Mad Mtu. Conditions: those that each theorem states. -/
import Derived.Test.YtjbclomfocnplaaGreatDoorShelfVR
import Derived.Test.YtjbclomfocnplaaGreatDoorRows
import Derived.Test.YtjbclomfocnplaaGreatDoorTie
import Derived.Test.YtjbclomfocnplaaGreatDoorCards
import Derived.WalkKit
import Derived.ProofKit
import Derived.OpenShut
import Derived.SevenTiedAt
import Derived.Below
import Derived.ChangeSame
import Derived.LaidLaws
import Derived.Lib.LaidTab
import Derived.Deep.DeepHandedRow
import Derived.Handy
import Derived.Deep.SlicePairs
import Derived.Carry
section
/- Equality of fractions, entries, rows, matrices. -/
namespace Gus
open Go Go.RowKit Go.Proofs
/-- the parts by which a fraction is told -/
theorem frac_iff (p q : Rat) : (lo p.num.natAbs = lo q.num.natAbs ∧ (bg p.num.natAbs).toList = (bg q.num.natAbs).toList ∧ decide (p.num < 0) = decide (q.num < 0) ∧ lo (p.den - 1) = lo (q.den - 1) ∧ (bg (p.den - 1)).toList = (bg (q.den - 1)).toList) ↔ p = q := by
  constructor
  · rintro ⟨h1, h2, h3, h4, h5⟩
    have hn := (nat_eq_iff' _ _).1 ⟨h1, h2⟩
    have hd := (nat_eq_iff' _ _).1 ⟨h4, h5⟩
    rw [decide_eq_decide] at h3
    have := p.den_pos; have := q.den_pos
    refine Rat.ext ?_ (by omega)
    by_cases hp : p.num < 0
    · have := h3.1 hp; omega
    · have : ¬ q.num < 0 := fun h => hp (h3.2 h)
      omega
  · rintro rfl; exact ⟨rfl, rfl, rfl, rfl, rfl⟩
set_option maxHeartbeats 2000000 in
theorem fracEq_run (p q : Rat) (w : World) : (binOp .eql 52 (fracV p) (fracV q)).run Tryz.prog w = .ok (.bool (decide (p = q))) w := by
  have h := frac_iff p q
  simp only [fracV]
  generalize lo p.num.natAbs = a1 at *
  generalize lo q.num.natAbs = b1 at *
  generalize bg p.num.natAbs = a2 at *
  generalize bg q.num.natAbs = b2 at *
  generalize decide (p.num < 0) = a3 at *
  generalize decide (q.num < 0) = b3 at *
  generalize lo (p.den - 1) = a4 at *
  generalize lo (q.den - 1) = b4 at *
  generalize bg (p.den - 1) = a5 at *
  generalize bg (q.den - 1) = b5 at *
  simp [go_sem]
  by_cases h1 : a1 = b1 <;> by_cases h2 : a2.toList = b2.toList <;> by_cases h3 : a3 = b3 <;> by_cases h4 : a4 = b4 <;> by_cases h5 : a5.toList = b5.toList <;> simp [h1, h2, h3, h4, h5] at h ⊢ <;> simp [h]
set_option maxHeartbeats 2000000 in
theorem entNeq_run (x y : EntI) (w : World) : (binOp .neq 87 (.agg (ecsI x).toArray) (.agg (ecsI y).toArray)).run Tryz.prog w = .ok (.bool (!decide (x = y))) w := by
  obtain ⟨i, p⟩ := x
  obtain ⟨k, q⟩ := y
  have h := frac_iff p q
  simp only [ecsI, fcs, Prod.mk.injEq]
  generalize lo p.num.natAbs = a1 at *
  generalize lo q.num.natAbs = b1 at *
  generalize bg p.num.natAbs = a2 at *
  generalize bg q.num.natAbs = b2 at *
  generalize decide (p.num < 0) = a3 at *
  generalize decide (q.num < 0) = b3 at *
  generalize lo (p.den - 1) = a4 at *
  generalize lo (q.den - 1) = b4 at *
  generalize bg (p.den - 1) = a5 at *
  generalize bg (q.den - 1) = b5 at *
  simp [go_sem]
  by_cases h0 : i = k <;> by_cases h1 : a1 = b1 <;> by_cases h2 : a2.toList = b2.toList <;> by_cases h3 : a3 = b3 <;> by_cases h4 : a4 = b4 <;> by_cases h5 : a5.toList = b5.toList <;> simp [h0, h1, h2, h3, h4, h5] at h ⊢ <;> (try simp [h])
set_option maxRecDepth 100000 in
set_option maxHeartbeats 2000000 in
theorem equalE_any (w : World) (v1 v2 : Value) (es1 es2 : List EntI) (h1 : RowG w v1 es1) (h2 : RowG w v2 es2) (hl : es1.length ≤ 4096) :
    Calls Tryz.prog 121 #[v1, v2] w fun e w' => e = .returned (.bool (decide (es1 = es2))) ∧ Below w.heap.size w w' := by
  have H1 := Lib.hid h1
  have H2 := Lib.hid h2
  obtain ⟨a1, c1, rfl, _⟩ := h1
  obtain ⟨a2, c2, rfl, _⟩ := h2
  obtain ⟨L, hL⟩ : ∃ L, L = es1.length := ⟨_, rfl⟩
  obtain ⟨M, hM⟩ : ∃ M, M = es2.length := ⟨_, rfl⟩
  rw [← hL] at hl ⊢
  rw [← hM]
  by_cases hLM : L = M
  · have hne : ((L : Int) != M) = false := by simp [hLM]
    obtain ⟨r, hr⟩ : ∃ r, r = decide (es1 = es2) := ⟨_, rfl⟩
    rw [← hr]
    have HR : Hid (r = decide (es1.drop 0 = es2.drop 0)) := Lib.hid hr
    have HL := Lib.hid hL
    have HM := Lib.hid hM
    have HLM := Lib.hid hLM
    clear hL hM hLM hr
    go_enter Tryz.func121, Tryz.ntmps121
    go_wp2_with fail
    go_loopw [13] (fun v13 wr => ∃ j : Nat, j ≤ L ∧ v13 = .int .i64 j ∧ Below w.heap.size w wr ∧ Hid (r = decide (es1.drop j = es2.drop j))) (fun v13 _ => L - (RowKit.intOf v13).toNat)
    case atStart => exact ⟨0, Nat.zero_le _, rfl, Below.refl _ _, HR⟩
    case round =>
      clear HR
      obtain ⟨j, hj, rfl, hbel, HR⟩ := hrel
      by_cases hjL : j < L
      · have hd1 := drop_getD es1 (0, 0) (show j < es1.length by rw [← HL.out]; exact hjL)
        have hd2 := drop_getD es2 (0, 0) (show j < es2.length by rw [← HM.out, ← HLM.out]; exact hjL)
        obtain ⟨b1, o1, k1, A1, A2, A3, A4, A5, hv1, hb1, hf1, _, x0, x1, x2, x3, x4, x5⟩ := (H1.out.call hbel).at (i := j) (by rw [← HL.out]; exact hjL)
        obtain ⟨b2, o2, k2, B1, B2, B3, B4, B5, hv2, hb2, hf2, _, y0, y1, y2, y3, y4, y5⟩ := (H2.out.call hbel).at (i := j) (by rw [← HM.out, ← HLM.out]; exact hjL)
        simp only [Value.slice.injEq] at hv1 hv2
        obtain ⟨rfl, _, hk1⟩ := hv1
        obtain ⟨rfl, _, hk2⟩ := hv2
        subst hk1 hk2
        obtain ⟨e1, he1⟩ : ∃ e, e = es1.getD j (0, 0) := ⟨_, rfl⟩
        obtain ⟨e2, he2⟩ : ∃ e, e = es2.getD j (0, 0) := ⟨_, rfl⟩
        have hneq := fun W => entNeq_run e1 e2 W
        have hr := HR.out
        rw [hd1, hd2, ← he1, ← he2] at hr
        unfold ecsI at hneq
        rw [← he1] at hf1 x0
        rw [← he2] at hf2 y0
        rw [hf1, hf2] at hneq
        obtain ⟨z1, hz1⟩ : ∃ z, z = e1.1 := ⟨_, rfl⟩
        obtain ⟨z2, hz2⟩ : ∃ z, z = e2.1 := ⟨_, rfl⟩
        rw [← hz1] at hneq x0
        rw [← hz2] at hneq y0
        have hjI : (j : Int) < L := by omega
        have hjM : (j : Int) < M := by have := HLM.out; omega
        have hj0 : (0 : Int) ≤ j := by omega
        have hjw : IntKind.i64.wrap ((j : Int) + 1) = ((j + 1 : Nat) : Int) := IntWalk.i64_in _ (by omega)
        clear hd1 hd2 HR
        by_cases heq : e1 = e2
        · rw [show (!decide (e1 = e2)) = false by simp [heq]] at hneq
          have hr2 : r = decide (es1.drop (j + 1) = es2.drop (j + 1)) := by rw [hr, heq]; simp
          have HR2 := Lib.hid hr2
          clear hr2 hr heq he1 he2 hz1 hz2 hf1 hf2
          go_upto_region 6 with fail
          have h := In.self wr
          have hc := h.cell
          refine wp_region_flow 8 (by kernel_rfl) (by kernel_rfl) (fun _ _ d _ _ h => by cases d <;> exact h) ?_; simp only [List.take_succ_cons, List.take_zero, List.drop_succ_cons, List.drop_zero]; simp only [putAll, Act.put, List.setIfInBounds_toArray, List.set]; (try simp only [Nat.reduceAdd]); (try simp only [Nat.zero_add]); (repeat (first | ((with_reducible refine flow_float (v := ?_) ?_ ?_ ?_); rotate_left 1; (focus (with_reducible rfl)); (focus (intro u w1 hw hd w2; (try simp only [depH] at hd); (try simp only [ext] at hd); (try simp only [extU] at hd); (try simp only [Nat.reduceAdd] at hd); (try simp only [Nat.reduceEqDiff] at hd); (try simp only [reduceIte] at hd); (try simp only [and_true] at hd); (try simp only [true_and] at hd); go_simp; exact rfl))) | ((first | ((with_reducible refine flow_pure0 (v := ?_) ?_ ?_ ?_ ?_); rotate_left 1; (focus (with_reducible rfl)); (focus rfl)) | ((with_reducible refine flow_pureg (v := ?_) (j := ?_) (b := ?_) ?_ ?_ ?_ ?_); rotate_left 3; (focus (with_reducible rfl)); (focus (intro u w1 hw hd; (try simp only [depH] at hd); (try simp only [ext] at hd); (try simp only [extU] at hd); (try simp only [Nat.reduceAdd] at hd); (try simp only [Nat.reduceEqDiff] at hd); (try simp only [reduceIte] at hd); (try simp only [and_true] at hd); (try simp only [true_and] at hd); simp [yielded, hd]; done)))); (focus (intro u w1 hw hd; (try simp only [depH] at hd); (try simp only [ext] at hd); (try simp only [extU] at hd); (try simp only [Nat.reduceAdd] at hd); (try simp only [Nat.reduceEqDiff] at hd); (try simp only [reduceIte] at hd); (try simp only [and_true] at hd); (try simp only [true_and] at hd); have hc' := hw.cell; go_simp; exact rfl))) | ((with_reducible refine flow_skipg (j := ?_) (b := ?_) ?_ ?_ ?_); rotate_left 2; (focus (with_reducible rfl)); (focus (intro u w1 hw hd; (try simp only [depH] at hd); (try simp only [ext] at hd); (try simp only [extU] at hd); (try simp only [Nat.reduceAdd] at hd); (try simp only [Nat.reduceEqDiff] at hd); (try simp only [reduceIte] at hd); (try simp only [and_true] at hd); (try simp only [true_and] at hd); simp [yielded, hd]; done))) | ((with_reducible refine flow_alloc (t := ?_) (zs := ?_) ?_ ?_ ?_ ?_); rotate_left 2; (focus (with_reducible rfl)); (focus rfl); (focus (intro u w1; go_simp; exact rfl)))))
          (try clear hc hf h); intro u w' h ha hdi; replace h := h.ins; (try simp only [World.size_alloc] at h); (try dsimp only at ha); (repeat rw [World.size_alloc] at ha); (try simp only [allH] at ha); (try simp only [ext] at ha); (try simp only [extU] at ha); (try simp only [Nat.reduceAdd] at ha); (try simp only [Nat.reduceEqDiff] at ha); (try simp only [reduceIte] at ha); (try simp only [and_true] at ha); (try simp only [true_and] at ha); have hc := h.cell; have hf := h.frozen
          (try obtain ha := ha); (try dsimp only);  simp only [ha]; clear ha hdi 
          have hbel2 := hbel.trans (h.bel.mono hbel.size)
          clear hc hf h
          go_wp2_with fail
          exact ⟨⟨j + 1, by omega, by go_num, hbel2, HR2⟩, by simp [RowKit.intOf]; omega⟩
        · rw [show (!decide (e1 = e2)) = true by simp [heq]] at hneq
          have hr2 : r = false := by rw [hr]; simp [heq]
          subst hr2
          clear hr heq he1 he2 hz1 hz2 hf1 hf2
          go_upto_region 6 with fail
          have h := In.self wr
          have hc := h.cell
          refine wp_region_flow 8 (by kernel_rfl) (by kernel_rfl) (fun _ _ d _ _ h => by cases d <;> exact h) ?_; simp only [List.take_succ_cons, List.take_zero, List.drop_succ_cons, List.drop_zero]; simp only [putAll, Act.put, List.setIfInBounds_toArray, List.set]; (try simp only [Nat.reduceAdd]); (try simp only [Nat.zero_add]); (repeat (first | ((with_reducible refine flow_float (v := ?_) ?_ ?_ ?_); rotate_left 1; (focus (with_reducible rfl)); (focus (intro u w1 hw hd w2; (try simp only [depH] at hd); (try simp only [ext] at hd); (try simp only [extU] at hd); (try simp only [Nat.reduceAdd] at hd); (try simp only [Nat.reduceEqDiff] at hd); (try simp only [reduceIte] at hd); (try simp only [and_true] at hd); (try simp only [true_and] at hd); go_simp; exact rfl))) | ((first | ((with_reducible refine flow_pure0 (v := ?_) ?_ ?_ ?_ ?_); rotate_left 1; (focus (with_reducible rfl)); (focus rfl)) | ((with_reducible refine flow_pureg (v := ?_) (j := ?_) (b := ?_) ?_ ?_ ?_ ?_); rotate_left 3; (focus (with_reducible rfl)); (focus (intro u w1 hw hd; (try simp only [depH] at hd); (try simp only [ext] at hd); (try simp only [extU] at hd); (try simp only [Nat.reduceAdd] at hd); (try simp only [Nat.reduceEqDiff] at hd); (try simp only [reduceIte] at hd); (try simp only [and_true] at hd); (try simp only [true_and] at hd); simp [yielded, hd]; done)))); (focus (intro u w1 hw hd; (try simp only [depH] at hd); (try simp only [ext] at hd); (try simp only [extU] at hd); (try simp only [Nat.reduceAdd] at hd); (try simp only [Nat.reduceEqDiff] at hd); (try simp only [reduceIte] at hd); (try simp only [and_true] at hd); (try simp only [true_and] at hd); have hc' := hw.cell; go_simp; exact rfl))) | ((with_reducible refine flow_skipg (j := ?_) (b := ?_) ?_ ?_ ?_); rotate_left 2; (focus (with_reducible rfl)); (focus (intro u w1 hw hd; (try simp only [depH] at hd); (try simp only [ext] at hd); (try simp only [extU] at hd); (try simp only [Nat.reduceAdd] at hd); (try simp only [Nat.reduceEqDiff] at hd); (try simp only [reduceIte] at hd); (try simp only [and_true] at hd); (try simp only [true_and] at hd); simp [yielded, hd]; done))) | ((with_reducible refine flow_alloc (t := ?_) (zs := ?_) ?_ ?_ ?_ ?_); rotate_left 2; (focus (with_reducible rfl)); (focus rfl); (focus (intro u w1; go_simp; exact rfl)))))
          (try clear hc hf h); intro u w' h ha hdi; replace h := h.ins; (try simp only [World.size_alloc] at h); (try dsimp only at ha); (repeat rw [World.size_alloc] at ha); (try simp only [allH] at ha); (try simp only [ext] at ha); (try simp only [extU] at ha); (try simp only [Nat.reduceAdd] at ha); (try simp only [Nat.reduceEqDiff] at ha); (try simp only [reduceIte] at ha); (try simp only [and_true] at ha); (try simp only [true_and] at ha); have hc := h.cell; have hf := h.frozen
          (try obtain ha := ha); (try dsimp only);  simp only [ha]; clear ha hdi 
          have hbel2 := hbel.trans (h.bel.mono hbel.size)
          clear hc hf h
          go_wp2_with fail
          go_ret
          exact ⟨rfl, hbel2⟩
      · have hr := HR.out
        rw [List.drop_eq_nil_of_le (by rw [← HL.out]; omega), List.drop_eq_nil_of_le (by rw [← HM.out, ← HLM.out]; omega)] at hr
        have hr2 : r = true := by rw [hr]; rfl
        subst hr2
        have hjI : ¬ (j : Int) < L := by omega
        clear hr HR
        go_wp2_with fail
        go_ret
        exact ⟨rfl, hbel⟩
  · have hne : ((L : Int) != M) = true := by
      have : ¬ (L : Int) = M := by omega
      simpa using this
    rw [show decide (es1 = es2) = false from decide_eq_false fun e => hLM (by rw [hL, hM, e])]
    clear hL hM hLM
    go_enter Tryz.func121, Tryz.ntmps121
    go_wp2_with fail
    go_ret
    exact ⟨rfl, Below.refl _ _⟩
end Gus
end
section
/- sparses.Same, sparses.Symmetric. -/
namespace Gus
open Go Go.RowKit Go.Proofs
def RwG (w : World) (a : Option Addr) (rows : List (List EntI)) : Prop := ∀ i, i < rows.length → ∃ b off x, a = some ⟨b, off, none⟩ ∧ b < w.heap.size ∧ w.cell? ⟨b, off + i, none⟩ = some x ∧ RowG w x (rows.getD i [])
theorem same1_any (w : World) (v1 v2 : Value) (es1 es2 : List EntI) (h1 : RowG w v1 es1) (h2 : RowG w v2 es2) (hl : es1.length ≤ 4096) :
    Calls Tryz.prog 120 #[v1, v2] w fun e w' => e = .returned (.bool (decide (es1 = es2))) ∧ Below w.heap.size w w' := by
  have h := equalE_any w v1 v2 es1 es2 h1 h2 hl
  obtain ⟨r, hr⟩ : ∃ r, r = decide (es1 = es2) := ⟨_, rfl⟩
  rw [← hr] at h ⊢
  clear hr h1 h2
  go_enter Tryz.func120, Tryz.ntmps120
  go_wp2_with fail
  ((with_reducible refine h.mono ?_))
  rintro e w' ⟨rfl, hb⟩
  clear h
  go_wp2_with fail
  go_ret
  exact ⟨rfl, hb⟩
set_option maxRecDepth 100000 in
set_option maxHeartbeats 2000000 in
theorem equalF_any (w : World) (a1 a2 : Option Addr) (c1 c2 : Nat) (rows1 rows2 : List (List EntI)) (h1 : RwG w a1 rows1) (h2 : RwG w a2 rows2) (hr : rows1.length ≤ 4096) (hl : ∀ i, (rows1.getD i []).length ≤ 4096) :
    Calls Tryz.prog 119 #[.slice a1 rows1.length c1, .slice a2 rows2.length c2, .func (.func 120) #[] #[]] w fun e w' => e = .returned (.bool (decide (rows1 = rows2))) ∧ Below w.heap.size w w' := by
  have eg : ∀ args w, (callFunc 120 args).run Tryz.prog w = .ok (.enter 120 args) w := enters_of Tryz.func120 (by kernel_rfl) rfl
  obtain ⟨L, hL⟩ : ∃ L, L = rows1.length := ⟨_, rfl⟩
  obtain ⟨M, hM⟩ : ∃ M, M = rows2.length := ⟨_, rfl⟩
  unfold RwG at h1 h2
  rw [← hL] at hr h1 ⊢
  rw [← hM] at h2 ⊢
  by_cases hLM : L = M
  · have hne : ((L : Int) != M) = false := by simp [hLM]
    obtain ⟨r, hrr⟩ : ∃ r, r = decide (rows1 = rows2) := ⟨_, rfl⟩
    rw [← hrr]
    have HR : Hid (r = decide (rows1.drop 0 = rows2.drop 0)) := Lib.hid hrr
    have H1 := Lib.hid h1
    have H2 := Lib.hid h2
    have HL := Lib.hid hL
    have HM := Lib.hid hM
    have HLM := Lib.hid hLM
    have HLL := Lib.hid hl
    clear hL hM hLM hrr h1 h2 hl
    go_enter Tryz.func119, Tryz.ntmps119
    go_wp2_with fail
    go_loopw [17] (fun v17 wr => ∃ j : Nat, j ≤ L ∧ v17 = .int .i64 j ∧ Below w.heap.size w wr ∧ Hid (r = decide (rows1.drop j = rows2.drop j))) (fun v17 _ => L - (RowKit.intOf v17).toNat)
    case atStart => exact ⟨0, Nat.zero_le _, rfl, Below.refl _ _, HR⟩
    case round =>
      clear HR
      obtain ⟨j, hj, rfl, hbel, HR⟩ := hrel
      by_cases hjL : j < L
      · have hd1 := drop_getD rows1 [] (show j < rows1.length by rw [← HL.out]; exact hjL)
        have hd2 := drop_getD rows2 [] (show j < rows2.length by rw [← HM.out, ← HLM.out]; exact hjL)
        obtain ⟨b1, o1, x1, rfl, hb1, hc1, hx1⟩ := H1.out j hjL
        obtain ⟨b2, o2, x2, rfl, hb2, hc2, hx2⟩ := H2.out j (by rw [← HLM.out]; exact hjL)
        rw [← hbel.cell (p := ⟨b1, o1 + j, none⟩) hb1] at hc1
        rw [← hbel.cell (p := ⟨b2, o2 + j, none⟩) hb2] at hc2
        have hbw1 : b1 < wr.heap.size := Nat.lt_of_lt_of_le hb1 hbel.size
        have hbw2 : b2 < wr.heap.size := Nat.lt_of_lt_of_le hb2 hbel.size
        have hs := same1_any wr x1 x2 _ _ (hx1.call hbel) (hx2.call hbel) (HLL.out j)
        have hrr := HR.out
        rw [hd1, hd2] at hrr
        obtain ⟨e1, he1⟩ : ∃ e, e = rows1.getD j [] := ⟨_, rfl⟩
        obtain ⟨e2, he2⟩ : ∃ e, e = rows2.getD j [] := ⟨_, rfl⟩
        rw [← he1, ← he2] at hrr hs
        obtain ⟨xa1, xn1, xk1, hxs1⟩ : ∃ a n k, x1 = .slice a n k := by obtain ⟨_, _, h, _⟩ := hx1; exact ⟨_, _, _, h⟩
        obtain ⟨xa2, xn2, xk2, hxs2⟩ : ∃ a n k, x2 = .slice a n k := by obtain ⟨_, _, h, _⟩ := hx2; exact ⟨_, _, _, h⟩
        subst hxs1 hxs2
        have hjI : (j : Int) < L := by omega
        have hjM : (j : Int) < M := by have := HLM.out; omega
        have hj0 : (0 : Int) ≤ j := by omega
        have hjw : IntKind.i64.wrap ((j : Int) + 1) = ((j + 1 : Nat) : Int) := IntWalk.i64_in _ (by omega)
        clear hd1 hd2 HR hb1 hb2 hx1 hx2
        by_cases heq : e1 = e2
        · rw [decide_eq_true heq] at hs
          have hr2 : r = decide (rows1.drop (j + 1) = rows2.drop (j + 1)) := by rw [hrr, heq]; simp
          have HR2 := Lib.hid hr2
          clear hr2 hrr heq he1 he2
          go_wp2_with fail
          ((with_reducible refine hs.mono ?_))
          rintro e w2 ⟨rfl, hb⟩
          have hbel2 := hbel.trans (hb.mono hbel.size)
          clear hb hs hc1 hc2 hbw1 hbw2
          go_wp2_with fail
          exact ⟨⟨j + 1, by omega, by go_num, hbel2, HR2⟩, by simp [RowKit.intOf]; omega⟩
        · rw [decide_eq_false heq] at hs
          have hr2 : r = false := by rw [hrr]; simp [heq]
          subst hr2
          clear hrr heq he1 he2
          go_wp2_with fail
          ((with_reducible refine hs.mono ?_))
          rintro e w2 ⟨rfl, hb⟩
          have hbel2 := hbel.trans (hb.mono hbel.size)
          clear hb hs hc1 hc2 hbw1 hbw2
          go_wp2_with fail
          go_ret
          exact ⟨rfl, hbel2⟩
      · have hrr := HR.out
        rw [List.drop_eq_nil_of_le (by rw [← HL.out]; omega), List.drop_eq_nil_of_le (by rw [← HM.out, ← HLM.out]; omega)] at hrr
        have hr2 : r = true := by rw [hrr]; rfl
        subst hr2
        have hjI : ¬ (j : Int) < L := by omega
        clear hrr HR
        go_wp2_with fail
        go_ret
        exact ⟨rfl, hbel⟩
  · have hne : ((L : Int) != M) = true := by
      have : ¬ (L : Int) = M := by omega
      simpa using this
    rw [show decide (rows1 = rows2) = false from decide_eq_false fun e => hLM (by rw [hL, hM, e])]
    clear hL hM hLM h1 h2 hl hr
    go_enter Tryz.func119, Tryz.ntmps119
    go_wp2_with fail
    go_ret
    exact ⟨rfl, Below.refl _ _⟩
def sameS (n1 m1 : Int) (rows1 : List (List EntI)) (n2 m2 : Int) (rows2 : List (List EntI)) : Bool := decide (n1 = n2) && (decide (m1 = m2) && decide (rows1 = rows2))
set_option maxRecDepth 100000 in
set_option maxHeartbeats 2000000 in
theorem ssame_any (w : World) (v1 v2 : Value) (n1 m1 n2 m2 : Int) (rows1 rows2 : List (List EntI)) (h1 : SpG w v1 n1 m1 rows1) (h2 : SpG w v2 n2 m2 rows2) (hr : rows1.length ≤ 4096) (hl : ∀ i, (rows1.getD i []).length ≤ 4096) :
    Calls Tryz.prog 57 #[v1, v2] w fun e w' => e = .returned (.bool (sameS n1 m1 rows1 n2 m2 rows2)) ∧ Below w.heap.size w w' := by
  have hE : ∀ W a1 c1 a2 c2, Below w.heap.size w W → v1 = .agg #[.int .i64 n1, .int .i64 m1, .slice a1 rows1.length c1] → v2 = .agg #[.int .i64 n2, .int .i64 m2, .slice a2 rows2.length c2] → Calls Tryz.prog _ _ _ _ := fun W a1 c1 a2 c2 hb e1 e2 => equalF_any W a1 a2 c1 c2 rows1 rows2 (by
      obtain ⟨a, c, h, hx⟩ := h1.call hb
      rw [e1] at h
      simp only [Value.agg.injEq] at h
      have h3 := congrArg Array.toList h
      simp only [List.cons.injEq, Value.slice.injEq, true_and, and_true] at h3
      rw [h3.1]; exact hx) (by
      obtain ⟨a, c, h, hx⟩ := h2.call hb
      rw [e2] at h
      simp only [Value.agg.injEq] at h
      have h3 := congrArg Array.toList h
      simp only [List.cons.injEq, Value.slice.injEq, true_and, and_true] at h3
      rw [h3.1]; exact hx) hr hl
  obtain ⟨a1, c1, rfl, _⟩ := h1
  obtain ⟨a2, c2, rfl, _⟩ := h2
  have hE2 := fun W hb => hE W a1 c1 a2 c2 hb rfl rfl
  obtain ⟨L, hL⟩ : ∃ L, L = rows1.length := ⟨_, rfl⟩
  obtain ⟨M, hM⟩ : ∃ M, M = rows2.length := ⟨_, rfl⟩
  obtain ⟨r, hrr⟩ : ∃ r, r = decide (rows1 = rows2) := ⟨_, rfl⟩
  unfold sameS
  rw [← hL, ← hM, ← hrr] at hE2
  rw [← hL, ← hM, ← hrr]
  clear hE hL hM hrr hr hl
  by_cases hn : n1 = n2
  · rw [decide_eq_true hn, Bool.true_and]
    have hb1 : (n1 == n2) = true := by simpa using hn
    by_cases hm : m1 = m2
    · rw [decide_eq_true hm, Bool.true_and]
      have hb2 : (m1 == m2) = true := by simpa using hm
      clear hn hm
      go_enter Tryz.func57, Tryz.ntmps57
      go_wp2_with fail
      ((with_reducible refine (hE2 _ ?_).mono ?_))
      · exact (((In.self w).alloc _).alloc _).bel
      rintro e w2 ⟨rfl, hb⟩
      have hin := (((In.self w).alloc _).alloc _).call hb
      clear hb hE2
      go_wp2_with fail
      go_ret
      exact ⟨rfl, hin.bel⟩
    · rw [decide_eq_false hm, Bool.false_and]
      have hb2 : (m1 == m2) = false := by simpa using hm
      clear hn hm hE2
      go_enter Tryz.func57, Tryz.ntmps57
      go_wp2_with fail
      go_ret
      exact ⟨rfl, (((In.self w).alloc _).alloc _).bel⟩
  · rw [decide_eq_false hn, Bool.false_and]
    have hb1 : (n1 == n2) = false := by simpa using hn
    clear hn hE2
    go_enter Tryz.func57, Tryz.ntmps57
    go_wp2_with fail
    go_ret
    exact ⟨rfl, (((In.self w).alloc _).alloc _).bel⟩
end Gus
end
section
/- sparses.Symmetric, sparses.Count, a nil builder's matrix. -/
namespace Gus
open Go Go.RowKit Go.Proofs
def gRows (r c : Nat) (f : Nat → Nat → Rat) : List (List EntI) := (mrows r c f).map fun es => es.map cI
theorem gRows_length (r c : Nat) (f : Nat → Nat → Rat) : (gRows r c f).length = r := by unfold gRows; rw [List.length_map, mrows_length]
theorem gRows_row {r c : Nat} (f : Nat → Nat → Rat) (i : Nat) : ((gRows r c f).getD i []).length ≤ c := by
  unfold gRows
  by_cases hi : i < r
  · have e : ((mrows r c f).map fun es => es.map cI).getD i [] = ((mrows r c f).getD i []).map cI := by
      simp only [List.getD_eq_getElem?_getD, List.getElem?_map, List.getElem?_eq_getElem (show i < (mrows r c f).length by rw [mrows_length]; exact hi)]; rfl
    rw [e, List.length_map]
    exact mrows_row r c f i
  · rw [List.getD_eq_getElem?_getD, List.getElem?_eq_none (by rw [List.length_map, mrows_length]; omega)]; exact Nat.zero_le _
/-- whether two matrices are the same -/
def sameM (r c : Nat) (f : Nat → Nat → Rat) (r' c' : Nat) (g : Nat → Nat → Rat) : Bool := sameS r c (gRows r c f) r' c' (gRows r' c' g)
theorem ssame_ok {w : World} {v1 v2 : Value} {r c r' c' : Nat} {f g : Nat → Nat → Rat} (h1 : SpM w v1 r c f) (h2 : SpM w v2 r' c' g) (hr : r ≤ 2048) (hc : c ≤ 2048) :
    Calls Tryz.prog 57 #[v1, v2] w fun e w' => e = .returned (.bool (sameM r c f r' c' g)) ∧ Below w.heap.size w w' :=
  ssame_any w v1 v2 r c r' c' (gRows r c f) (gRows r' c' g) h1.g h2.g (by rw [gRows_length]; omega) (fun i => Nat.le_trans (gRows_row f i) (by omega))
theorem sameM_self {r c : Nat} {f g : Nat → Nat → Rat} (h : ∀ i k, i < r → k < c → f i k = g i k) : sameM r c f r c g = true := by
  unfold sameM sameS gRows
  rw [mrows_congr h]; simp
set_option maxRecDepth 100000 in
set_option maxHeartbeats 2000000 in
theorem symm_any {j : Nat} (w : World) (v : Value) (r c : Nat) (f : Nat → Nat → Rat) (hS : SpM w v r c f) (hr : r ≤ 2048) (hc : c ≤ 2048) (hz : ∀ i k, SzK j (f i k)) (hcap : r * c * (j + 1) + 1 < 17592186044416) :
    Calls Tryz.prog 38 #[v] w fun e w' => e = .returned (.bool (sameM r c f c r fun k i => f i k)) ∧ Below w.heap.size w w' := by
  have ht := fun W (hb : Below w.heap.size w W) => turn_any W v r c f (hS.call hb) hr hc hz hcap
  obtain ⟨a, cap, rfl⟩ := hS.shape
  obtain ⟨X, hX⟩ : ∃ X, X = w.heap.size := ⟨_, rfl⟩
  have HX := Lib.hid hX
  have HS := Lib.hid hS
  clear hS hcap hz
  go_enter Tryz.func38, Tryz.ntmps38
  go_wp2_with fail
  ((with_reducible refine (ht _ ?_).mono ?_))
  · exact ((In.self w).alloc _).bel
  rintro e w2 ⟨tv, rfl, htv, hb⟩
  have hin := ((In.self w).alloc (.cells #[.int .i64 r, .int .i64 c, .slice a r cap] 30)).call hb
  have bx := (Bx.new_at w #[.int .i64 r, .int .i64 c, .slice a r cap] 30 hX).call hb
  have htm : SpM w2 tv c r (fun k i => f i k) := htv.m
  have hs2 := HS.out.call hin.bel
  obtain ⟨ta, tc, rfl⟩ := htm.shape
  rw [← hX] at hin ⊢
  clear hX htv hb ht
  go_upto_region 2 with fail
  have bt := Bx.new w2 #[.int .i64 c, .int .i64 r, .slice ta c tc] 30
  have bx3 := bx.alloc (.cells #[.int .i64 c, .int .i64 r, .slice ta c tc] 30)
  have hin3 := hin.alloc (.cells #[.int .i64 c, .int .i64 r, .slice ta c tc] 30)
  have hsm := ssame_ok (hs2.call ((Below.refl _ _).alloc (Nat.le_refl _) (.cells #[.int .i64 c, .int .i64 r, .slice ta c tc] 30))) (htm.call ((Below.refl _ _).alloc (Nat.le_refl _) (.cells #[.int .i64 c, .int .i64 r, .slice ta c tc] 30))) hr hc
  have x0 := bx3.c0
  have x1 := bx3.c1
  have x2 := bx3.c2
  have t0 := bt.c0
  have t1 := bt.c1
  have t2 := bt.c2
  have hxl := bx3.lt
  have htl := bt.lt
  clear bx hin hs2 htm
  generalize w2.alloc (.cells #[.int .i64 c, .int .i64 r, .slice ta c tc] 30) = W3 at *
  go_wp2_with fail
  ((with_reducible refine hsm.mono ?_))
  rintro e w4 ⟨rfl, hb4⟩
  have hin4 := hin3.call hb4
  clear hsm hb4 x0 x1 x2 t0 t1 t2
  go_wp2_with fail
  go_ret
  exact ⟨rfl, by rw [← HX.out]; exact hin4.bel⟩
end Gus
end
section
/- sparses.Of. -/
namespace Gus
open Go Go.RowKit Go.Proofs
abbrev Itm := Int × Int × Rat
def ics (x : Itm) : List Value := .int .i64 x.1 :: .int .i64 x.2.1 :: fcs x.2.2
/-- a slice of items as it is read -/
def ItsAt (w : World) (a : Option Addr) (its : List Itm) : Prop := ∀ i, i < its.length → ∃ b off, a = some ⟨b, off, none⟩ ∧ b < w.heap.size ∧ ∀ j, j < 7 → w.cell? ⟨b, off + i * 7 + j, none⟩ = (ics (its.getD i (0, 0, 0)))[j]?
theorem ItsAt.call {w w' : World} {a : Option Addr} {its : List Itm} (h : ItsAt w a its) (hb : Below w.heap.size w w') : ItsAt w' a its := fun i hi => by
  obtain ⟨b, off, h1, h2, h3⟩ := h i hi
  exact ⟨b, off, h1, Nat.lt_of_lt_of_le h2 hb.size, fun j hj => by rw [hb.cell (p := ⟨b, off + i * 7 + j, none⟩) h2]; exact h3 j hj⟩
def okI (n m : Nat) (x : Itm) : Bool := decide (0 ≤ x.1) && decide (x.1 < n) && decide (0 ≤ x.2.1) && decide (x.2.1 < m)
def toN (x : Itm) : Nat × Nat × Rat := (x.1.toNat, x.2.1.toNat, x.2.2)
abbrev zeroSp : Value := .agg #[.int .i64 0, .int .i64 0, .slice none 0 0]
theorem SpOwn.mono {w : World} {lo lo' : Nat} {v : Value} {r c : Nat} {Ls : Nat → List Ent} (h : SpOwn w lo v r c Ls) (hl : lo' ≤ lo) : SpOwn w lo' v r c Ls := by
  obtain ⟨R, vs, h1, h2, h3⟩ := h
  exact ⟨R, vs, h1, by omega, h3⟩
def OfPost (w : World) (n m : Nat) (its : List Itm) (e : Ending) (w' : World) : Prop :=
  ((its.all (okI n m) = true ∧ ∃ v, e = .returned (.tuple #[v, .int .i64 0]) ∧ SpN w' w.heap.size v n m (foldA (fun _ _ => 0) (its.map toN))) ∨ (its.all (okI n m) = false ∧ e = .returned (.tuple #[zeroSp, .int .i64 1]))) ∧ Below w.heap.size w w'
theorem foldA_snoc (f : Nat → Nat → Rat) (L : List (Nat × Nat × Rat)) (x : Nat × Nat × Rat) : foldA f (L ++ [x]) = addF (foldA f L) x := by
  unfold foldA; rw [List.foldl_append]; rfl
theorem take_getD {α : Type} (l : List α) (d : α) {i : Nat} (hi : i < l.length) : l.take (i + 1) = l.take i ++ [l.getD i d] := by
  rw [List.take_succ_eq_append_getElem hi, List.getD_eq_getElem?_getD, List.getElem?_eq_getElem hi]; rfl
theorem all_take {α : Type} (l : List α) (d : α) (p : α → Bool) {i : Nat} (hi : i < l.length) (h : (l.take i).all p = true) (h2 : p (l.getD i d) = true) : (l.take (i + 1)).all p = true := by
  rw [take_getD l d hi, List.all_append, h, List.all_cons, h2, List.all_nil]; rfl
theorem all_false {α : Type} (l : List α) (d : α) (p : α → Bool) {i : Nat} (hi : i < l.length) (h2 : p (l.getD i d) = false) : l.all p = false := by
  rw [List.all_eq_false]
  exact ⟨l.getD i d, by rw [List.getD_eq_getElem?_getD, List.getElem?_eq_getElem hi]; exact List.getElem_mem hi, by rw [h2]; decide⟩
set_option maxRecDepth 100000 in
set_option maxHeartbeats 4000000 in
theorem of_ok {j : Nat} (w : World) (n m : Nat) (a : Option Addr) (cap : Nat) (its : List Itm) (hI : ItsAt w a its) (hn : n ≤ 2048) (hm : m ≤ 2048) (hl : its.length ≤ 1048576) (hz : ∀ i, SzK j (its.getD i (0, 0, 0)).2.2) (hcap : its.length * (j + 1) + 1 < 17592186044416) :
    Calls Tryz.prog 49 #[.int .i64 n, .int .i64 m, .slice a its.length cap] w (OfPost w n m its) := by
  have h1 := new_ok n m hn hm
  obtain ⟨L, hL⟩ : ∃ L, L = its.length := ⟨_, rfl⟩
  unfold ItsAt at hI
  rw [← hL] at hI hl hcap ⊢
  obtain ⟨X, hX⟩ : ∃ X, X = w.heap.size := ⟨_, rfl⟩
  have HX := Lib.hid hX
  have HI := Lib.hid hI
  have HL := Lib.hid hL
  have HZ := Lib.hid hz
  have HC := Lib.hid hcap
  clear hI hL hz hcap
  go_enter Tryz.func49, Tryz.ntmps49
  go_wp2_with fail
  ((with_reducible refine (h1 _).mono ?_))
  rintro e w2 ⟨b, rfl, hb, hB, hbel⟩
  have hin : In X w w2 := by rw [hX]; exact ((In.self w).alloc _).call hbel
  have br := (Bx.new_at w #[.int .i64 0, .int .i64 0, .slice none 0 0] 30 hX).call hbel
  rw [World.size_alloc, ← hX] at hb
  rw [← hX]
  clear hX hbel h1
  go_wp2_with fail
  go_loopw [25] (fun v25 wr => ∃ k : Nat, k ≤ L ∧ v25 = .int .i64 k ∧ In X w wr ∧ Bx wr X 30 [.int .i64 0, .int .i64 0, .slice none 0 0] ∧ BB wr (b + 1) b k n m (foldA (fun _ _ => 0) ((its.take k).map toN)) ∧ (∀ x y, SzK (1 + k * (j + 1)) (foldA (fun _ _ => 0) ((its.take k).map toN) x y)) ∧ Hid ((its.take k).all (okI n m) = true)) (fun v25 _ => L - (RowKit.intOf v25).toNat)
  case atStart => exact ⟨0, Nat.zero_le _, rfl, hin, br, hB, fun _ _ => (show SzK _ 0 from SzK.zero.mono (by omega)), Lib.hid rfl⟩
  case round =>
    clear hin br hB
    obtain ⟨k, hk, rfl, hin, br, hB, hsz, HA⟩ := hrel
    by_cases hkL : k < L
    · obtain ⟨b2, off, rfl, hb2, hc⟩ := HI.out k hkL
      obtain ⟨x, hx⟩ : ∃ x, x = its.getD k (0, 0, 0) := ⟨_, rfl⟩
      rw [← hx] at hc
      have hzx := HZ.out k
      rw [← hx] at hzx
      obtain ⟨A1, A2, A3, A4, A5, hA, hA2⟩ : ∃ A1 A2 A3 A4 A5, fcs x.2.2 = [.int .u64 A1, .string A2, .bool A3, .int .u64 A4, .string A5] ∧ fracV x.2.2 = .agg #[.int .u64 A1, .string A2, .bool A3, .int .u64 A4, .string A5] := ⟨_, _, _, _, _, rfl, rfl⟩
      have hics : ics x = [.int .i64 x.1, .int .i64 x.2.1, .int .u64 A1, .string A2, .bool A3, .int .u64 A4, .string A5] := by unfold ics; rw [hA]
      rw [hics] at hc
      rw [← HX.out] at hb2
      have d0 := (hin.cell b2 (off + k * 7) hb2).trans (hc 0 (by decide))
      have d1 := (hin.cell b2 (off + k * 7 + 1) hb2).trans (hc 1 (by decide))
      have d2 := (hin.cell b2 (off + k * 7 + 2) hb2).trans (hc 2 (by decide))
      have d3 := (hin.cell b2 (off + k * 7 + 3) hb2).trans (hc 3 (by decide))
      have d4 := (hin.cell b2 (off + k * 7 + 4) hb2).trans (hc 4 (by decide))
      have d5 := (hin.cell b2 (off + k * 7 + 5) hb2).trans (hc 5 (by decide))
      have d6 := (hin.cell b2 (off + k * 7 + 6) hb2).trans (hc 6 (by decide))
      simp only [List.getElem?_cons_zero, List.getElem?_cons_succ] at d0 d1 d2 d3 d4 d5 d6
      have hbw : b2 < wr.heap.size := by have := hin.siz; omega
      have hkI : (k : Int) < L := by omega
      have hk0 : (0 : Int) ≤ k := by omega
      have hkw : IntKind.i64.wrap ((k : Int) + 1) = ((k + 1 : Nat) : Int) := IntWalk.i64_in _ (by omega)
      have hkj : (k + 1) * (j + 1) ≤ L * (j + 1) := Nat.mul_le_mul_right _ (by omega)
      have hcl := HC.out
      obtain ⟨y, hy⟩ : ∃ y, y = x.1 := ⟨_, rfl⟩
      obtain ⟨z, hz⟩ : ∃ z, z = x.2.1 := ⟨_, rfl⟩
      obtain ⟨q, hq⟩ : ∃ q, q = x.2.2 := ⟨_, rfl⟩
      rw [← hy] at d0
      rw [← hz] at d1
      rw [← hq] at hzx hA2
      by_cases hok : 0 ≤ y ∧ y < n ∧ 0 ≤ z ∧ z < m
      · obtain ⟨y', rfl⟩ := Int.eq_ofNat_of_zero_le hok.1
        obtain ⟨z', rfl⟩ := Int.eq_ofNat_of_zero_le hok.2.2.1
        have hx2 : toN x = (y', z', q) := by unfold toN; rw [← hy, ← hz, ← hq]; rfl
        have hxo : okI n m x = true := by unfold okI; rw [← hy, ← hz]; simp; omega
        have ha := fun o => badd_in (s := 1 + k * (j + 1)) (j := j) (wr.alloc o) (b + 1) b k n m _ y' z' q (hB.alloc o) (by omega) (by omega) hn hm (by simp only [maxLen]; omega) (by omega) (hsz _ _) hzx (by rw [Nat.add_mul, Nat.one_mul] at hkj; omega)
        have e1 : setF (foldA (fun _ _ => 0) ((its.take k).map toN)) y' z' (foldA (fun _ _ => 0) ((its.take k).map toN) y' z' + q) = foldA (fun _ _ => 0) ((its.take (k + 1)).map toN) := by
          rw [take_getD its (0, 0, 0) (by rw [← HL.out]; exact hkL), ← hx, List.map_append, List.map_singleton, foldA_snoc, hx2]; rfl
        have hsz2 := SzK_foldA (x := (y', z', q)) hsz hzx
        rw [show addF (foldA (fun _ _ => 0) ((its.take k).map toN)) (y', z', q) = foldA (fun _ _ => 0) ((its.take (k + 1)).map toN) from e1] at hsz2
        rw [e1] at ha
        have HA2 : Hid ((its.take (k + 1)).all (okI n m) = true) := Lib.hid (all_take its (0, 0, 0) _ (by rw [← HL.out]; exact hkL) HA.out (by rw [← hx]; exact hxo))
        rw [hA2] at ha
        have HZ2 := Lib.hid hsz2
        clear hsz2 hx2 hxo e1 HA hx hy hz hq hics hc hA hA2 hzx hok hsz
        go_wp2_with fail
        ((with_reducible refine (ha _).mono ?_))
        rintro e w4 ⟨rfl, hB4, hg⟩
        have hin4 := (hin.alloc _).grown hg (by omega)
        have br4 := (br.alloc _).grown hg (by simp; omega)
        clear ha hg hin br hB d0 d1 d2 d3 d4 d5 d6 hbw
        go_wp2_with fail
        exact ⟨⟨k + 1, by omega, by go_num, hin4, br4, hB4, fun x y => (HZ2.out x y).mono (by rw [Nat.add_mul]; omega), HA2⟩, by simp [RowKit.intOf]; omega⟩
      · have ha := fun o => badd_out (wr.alloc o) (b + 1) b k n m _ y z q (hB.alloc o) (fun h => hok ⟨h.1, h.2.1, h.2.2.1, h.2.2.2⟩)
        have hxo : okI n m x = false := by
          unfold okI
          rw [← hy, ← hz]
          simp
          omega
        have HAF := Lib.hid (all_false its (0, 0, 0) (okI n m) (by rw [← HL.out]; exact hkL) (by rw [← hx]; exact hxo))
        rw [hA2] at ha
        clear hxo HA hx hy hz hq hics hc hA hA2 hzx hok hsz hB
        go_wp2_with fail
        ((with_reducible refine (ha _).mono ?_))
        rintro e w4 ⟨rfl, hbel⟩
        have hin4 := (hin.alloc _).call hbel
        have br4 := (br.alloc _).call hbel
        have r0 := br4.c0
        have r1 := br4.c1
        have r2 := br4.c2
        have f0 := br4.frozen 0
        have f1 := br4.frozen 1
        have f2 := br4.frozen 2
        have hrl := br4.lt
        have H1 := Lib.hid (((br4.set 0 (.int .i64 0)).set 1 (.int .i64 0)).set 2 (.slice none 0 0))
        have H2 := Lib.hid (((hin4.setCell (p := ⟨X, 0, none⟩) (Nat.le_refl _) (.int .i64 0)).setCell (p := ⟨X, 1, none⟩) (Nat.le_refl _) (.int .i64 0)).setCell (p := ⟨X, 2, none⟩) (Nat.le_refl _) (.slice none 0 0))
        clear ha hbel hin br hin4 br4 d0 d1 d2 d3 d4 d5 d6 hbw
        go_wp2_with fail
        have g1 := H1.out
        have g2 := H2.out
        clear H1 H2 r0 r1 r2 f0 f1 f2 hrl
        generalize ((w4.setCell ⟨X, 0, none⟩ (.int .i64 0)).setCell ⟨X, 1, none⟩ (.int .i64 0)).setCell ⟨X, 2, none⟩ (.slice none 0 0) = W5 at *
        have e0 : W5.cell? ⟨X, 0, none⟩ = some (.int .i64 0) := g1.cell 0
        have e1 : W5.cell? ⟨X, 1, none⟩ = some (.int .i64 0) := g1.cell 1
        have e2 : W5.cell? ⟨X, 2, none⟩ = some (.slice none 0 0) := g1.cell 2
        refine bodyPost_ret (v := .tuple #[zeroSp, .int .i64 1]) ?_ rfl ⟨.inr ⟨HAF.out, rfl⟩, by rw [← HX.out]; exact g2.bel⟩
        simp [results, Tryz.results49, go_sem, e0, e1, e2]
    · have hkI : ¬ (k : Int) < L := by omega
      have hkL' : k = L := by omega
      have hall := HA.out
      rw [List.take_of_length_le (by rw [← HL.out]; omega)] at hall hB
      have hsp := bsparse_any wr (b + 1) b k n m _ hB hn hm
      have HALL := Lib.hid hall
      have hXw := hin.siz
      clear hall hB hsz HA hkL'
      go_wp2_with fail
      ((with_reducible refine hsp.mono ?_))
      rintro e w5 ⟨v5, rfl, hv5, hb5⟩
      ((obtain ⟨R, h5⟩ : ∃ R, v5 = .agg #[(.int .i64 ((n : Nat) : Int)), (.int .i64 ((m : Nat) : Int)), (.slice (some ⟨R, 0, none⟩) (n) (n))] := by (obtain ⟨R, _, h, _⟩ := hv5; exact ⟨R, h⟩)); (have br5 := br.call hb5); (have hin5 := hin.call hb5); (have hXl := br.lt); (have hv7 := ((SpOwn.other (a := ⟨X, 0, none⟩) hv5 hXl (.int .i64 ((n : Nat) : Int))).other (a := ⟨X, 1, none⟩) hXl (.int .i64 ((m : Nat) : Int))).other (a := ⟨X, 2, none⟩) hXl (.slice (some ⟨R, 0, none⟩) (n) (n))); (have br6 := ((br5.set 0 (.int .i64 ((n : Nat) : Int))).set 1 (.int .i64 ((m : Nat) : Int))).set 2 (.slice (some ⟨R, 0, none⟩) (n) (n))); (have hin6 := ((hin5.setCell (p := ⟨X, 0, none⟩) (by first | (simp; done) | (simp; omega)) (.int .i64 ((n : Nat) : Int))).setCell (p := ⟨X, 1, none⟩) (by first | (simp; done) | (simp; omega)) (.int .i64 ((m : Nat) : Int))).setCell (p := ⟨X, 2, none⟩) (by first | (simp; done) | (simp; omega)) (.slice (some ⟨R, 0, none⟩) (n) (n))); (have f0 := br5.frozen 0); (have f1 := br5.frozen 1); (have f2 := br5.frozen 2); (have b0 := br5.c0); (have b1 := br5.c1); (have b2 := br5.c2); (have hl5 := br5.lt); (subst h5); (have H1 := Lib.hid hv7); (have H2 := Lib.hid br6); (have H3 := Lib.hid hin6); (clear hv7 br6 hin6 hv5 hb5 br br5 hin hin5); (go_wp2_with fail); (have h1 := H1.out); (have h2 := H2.out); (have h3 := H3.out); (clear H1 H2 H3 f0 f1 f2 b0 b1 b2 hl5); (generalize ((w5.setCell ⟨X, 0, none⟩ (.int .i64 ((n : Nat) : Int))).setCell ⟨X, 1, none⟩ (.int .i64 ((m : Nat) : Int))).setCell ⟨X, 2, none⟩ (.slice (some ⟨R, 0, none⟩) (n) (n)) = W6 at *); (have e0 : W6.cell? ⟨X, 0, none⟩ = some (.int .i64 ((n : Nat) : Int)) := h2.cell 0); (have e1 : W6.cell? ⟨X, 1, none⟩ = some (.int .i64 ((m : Nat) : Int)) := h2.cell 1); (have e2 : W6.cell? ⟨X, 2, none⟩ = some (.slice (some ⟨R, 0, none⟩) (n) (n)) := h2.cell 2); (have hfin := SpOwn.mono h1 (show w.heap.size ≤ (World.heap wr).size by rw [← HX.out]; omega)); (have hbelow : Below w.heap.size w W6 := h3.bel.mono (by have := HX.out; omega)); (refine bodyPost_ret (v := .tuple #[.agg #[(.int .i64 ((n : Nat) : Int)), (.int .i64 ((m : Nat) : Int)), (.slice (some ⟨R, 0, none⟩) (n) (n))], .int .i64 0]) ?_ rfl ⟨.inl ⟨HALL.out, _, rfl, hfin⟩, hbelow⟩); (simp [results, Tryz.results49, go_sem, e0, e1, e2]))
end Gus
end
section
/- What all cards of this seat share: a world that holds the listed tables; the last step of a row whose call only makes memory. -/
namespace Gus
open Go Go.RowKit Go.Proofs Go.ChangeShapes Go.WideShapes Go.ChangeAt
theorem ownK : ownKnob Tryz.prog.godebug = none := by kernel_rfl
def tabP : Obj → Obj
  | .cells _ t frozen => .cells #[.int .u64 1, .int .u64 10, .int .u64 100, .int .u64 1000, .int .u64 10000, .int .u64 100000, .int .u64 1000000, .int .u64 10000000, .int .u64 100000000, .int .u64 1000000000, .int .u64 10000000000, .int .u64 100000000000, .int .u64 1000000000000, .int .u64 10000000000000, .int .u64 100000000000000, .int .u64 1000000000000000, .int .u64 10000000000000000, .int .u64 100000000000000000, .int .u64 1000000000000000000, .int .u64 10000000000000000000] t frozen
  | o => o
def tabA : Obj → Obj
  | .cells _ t frozen => .cells #[.int .u8 0, .int .u8 1, .int .u8 28, .int .u8 2, .int .u8 29, .int .u8 14, .int .u8 24, .int .u8 3, .int .u8 30, .int .u8 22, .int .u8 20, .int .u8 15, .int .u8 25, .int .u8 17, .int .u8 4, .int .u8 8, .int .u8 31, .int .u8 27, .int .u8 13, .int .u8 23, .int .u8 21, .int .u8 19, .int .u8 16, .int .u8 7, .int .u8 26, .int .u8 12, .int .u8 18, .int .u8 6, .int .u8 11, .int .u8 5, .int .u8 10, .int .u8 9] t frozen
  | o => o
def tabB : Obj → Obj
  | .cells _ t frozen => .cells #[.int .u8 0, .int .u8 1, .int .u8 56, .int .u8 2, .int .u8 57, .int .u8 49, .int .u8 28, .int .u8 3, .int .u8 61, .int .u8 58, .int .u8 42, .int .u8 50, .int .u8 38, .int .u8 29, .int .u8 17, .int .u8 4, .int .u8 62, .int .u8 47, .int .u8 59, .int .u8 36, .int .u8 45, .int .u8 43, .int .u8 51, .int .u8 22, .int .u8 53, .int .u8 39, .int .u8 33, .int .u8 30, .int .u8 24, .int .u8 18, .int .u8 12, .int .u8 5, .int .u8 63, .int .u8 55, .int .u8 48, .int .u8 27, .int .u8 60, .int .u8 41, .int .u8 37, .int .u8 16, .int .u8 46, .int .u8 35, .int .u8 44, .int .u8 21, .int .u8 52, .int .u8 32, .int .u8 23, .int .u8 11, .int .u8 54, .int .u8 26, .int .u8 40, .int .u8 15, .int .u8 34, .int .u8 20, .int .u8 31, .int .u8 10, .int .u8 25, .int .u8 14, .int .u8 19, .int .u8 9, .int .u8 13, .int .u8 8, .int .u8 7, .int .u8 6] t frozen
  | o => o
noncomputable def laidW (os : Os) : World :=
  { World.holding Tryz.prog os ⟨#[], #[], []⟩ with heap := (((World.holding Tryz.prog os ⟨#[], #[], []⟩).heap.modify 1 tabP).modify 3 tabA).modify 4 tabB }
section
variable {H : Type} {enc : TypeId × Value → H} {P : Program}
/-- a call behind which nothing that was there has turned: its row's last condition -/
theorem row_end {f : Func} {s : ChangeSpec} {apart fresh handsOn again : Bool} {W W' : World} {args : Array Value} {v : Value} {ds gs : List (DataW H)} {before pa pv : List MemPlace}
    (hb : Below W.heap.size W W') (hW : DataW.Whole enc P f.params.toList s.vars apart W args.toList ds gs before) (hps : before = pa ++ pv)
    (hargs : ∀ sp : Nat → Bool, (∀ p ∈ before, sp p.block = true) → DataW.TrodAll enc P W' 0 sp true f.params.toList args.toList (s.fn H (ds ++ gs)).args pa)
    (hvars : ∀ sp : Nat → Bool, (∀ p ∈ before, sp p.block = true) → DataW.TrodVars enc P W' sp s.vars (s.fn H (ds ++ gs)).vars pv)
    (hres : ∀ (b : Nat) (sp : Nat → Bool) (hd : Bool), DataW.TrodAll enc P W' b sp hd f.resultTypes.toList (v.resultList f.resultTypes.size) (s.fn H (ds ++ gs)).results [])
    (hok : ∀ (j : Nat) (t : TypeId) (r : Value), f.resultTypes[j]? = some t → (v.resultList f.resultTypes.size)[j]? = some r → Value.okWide P W' .any 0 t r) :
    s.post enc P f apart fresh handsOn again W args v W' := by
  have hin : ∀ p ∈ before, decide (p.block < W.heap.size) = true := fun p hp => decide_eq_true (hW.lt p hp)
  have hkept : W.keptBut W' (fun p => p ∈ before ∧ p ∈ pa ++ pv) := World.keptBut_mono (fun p hp => ⟨hp, hps ▸ hp⟩) (hb.frame (· ∈ before))
  refine ⟨ds, gs, before, [], pa, pv, hW, hres _ _ _, hargs _ hin, hvars _ hin, World.keptBut_mono (fun p hp => ⟨hp.1, ?_⟩) hkept, fun _ => ?_⟩
  · exact .inr (List.mem_append.1 hp.2)
  · have hlt := hW.lt
    obtain ⟨_, _, _, _, _, hz, hn⟩ := hW
    refine ⟨hok, _, _, ([] ++ pa) ++ pv, ⟨[] ++ pa, pv, trodAll_append (hargs _ (fun _ _ => rfl)) (hres _ _ _), hvars _ (fun _ _ => rfl), rfl, ?_, ?_⟩, ?_⟩
    · intro b off hp
      have hq : MemPlace.cell b off ∈ before := by rw [hps]; simpa using hp
      exact (hb.frozen (hlt _ hq)).trans (hz b off hq)
    · intro ha
      have h2 := hn ha
      rw [hps] at h2
      simpa using h2
    · intro p hp _
      rw [hps]
      simpa using hp
end
end Gus
end
section
/- The laws' matrices: (gussetlaw13.M).Of; a dense matrix as it is read. -/
namespace Gus
open Go Go.RowKit Go.Proofs
theorem VecAt.own {w : World} {base : Nat} {v : Value} {qs : List Rat} (h : w.ownsRow base 52 5 v qs.length (fcl qs)) : VecAt w v qs := by
  rcases h.2 with ⟨rfl, hn⟩ | ⟨g, cap, cur, rfl, hb, hg, hrest⟩
  · rw [List.length_eq_zero_iff] at hn
    subst hn
    exact VecAt.nil w none 0
  · refine ⟨some ⟨g, 0, none⟩, cap, rfl, fun i hi => ⟨g, 0, rfl, (Array.getElem?_eq_some_iff.1 hg).1, fun j hj => ?_, _, _, hg⟩⟩
    have hk := fcl_at qs i j hi hj
    have hj5 : j < (fcs (qs.getD i 0)).length := hj
    rw [List.getElem?_eq_getElem hj5] at hk ⊢
    have := h.cells (g := g) rfl (i * 5 + j) _ hk
    rw [Nat.zero_add, ← this]
    unfold Addr.add
    split <;> simp_all
/-- a dense matrix: its sides, its elements row by row -/
def MatAt (w : World) (v : Value) (r c : Nat) (qs : List Rat) : Prop := ∃ x, v = .agg #[.int .i64 r, .int .i64 c, x] ∧ qs.length = r * c ∧ VecAt w x qs
theorem MatAt.call {w w' : World} {v : Value} {r c : Nat} {qs : List Rat} (h : MatAt w v r c qs) (hb : Below w.heap.size w w') : MatAt w' v r c qs :=
  let ⟨x, h1, h2, h3⟩ := h; ⟨x, h1, h2, h3.call hb⟩
theorem MatAt.shape {w : World} {v : Value} {r c : Nat} {qs : List Rat} (h : MatAt w v r c qs) : ∃ a cap, v = .agg #[.int .i64 r, .int .i64 c, .slice a qs.length cap] := by
  obtain ⟨x, rfl, _, h3⟩ := h
  obtain ⟨a, cap, rfl⟩ := h3.shape
  exact ⟨a, cap, rfl⟩
end Gus
end
section
/- sparses.OfDense. -/
namespace Gus
open Go Go.RowKit Go.Proofs
/-- the values of a dense matrix -/
def mvals (c : Nat) (qs : List Rat) (i k : Nat) : Rat := qs.getD (i * c + k) 0
end Gus
end
section
/- Equality of rows of fractions and of dense matrices. -/
namespace Gus
open Go Go.RowKit Go.Proofs
set_option maxHeartbeats 2000000 in
theorem fracNeq_run (p q : Rat) (w : World) : (binOp .neq 52 (fracV p) (fracV q)).run Tryz.prog w = .ok (.bool (!decide (p = q))) w := by
  have h := frac_iff p q
  simp only [fracV]
  generalize lo p.num.natAbs = a1 at *
  generalize lo q.num.natAbs = b1 at *
  generalize bg p.num.natAbs = a2 at *
  generalize bg q.num.natAbs = b2 at *
  generalize decide (p.num < 0) = a3 at *
  generalize decide (q.num < 0) = b3 at *
  generalize lo (p.den - 1) = a4 at *
  generalize lo (q.den - 1) = b4 at *
  generalize bg (p.den - 1) = a5 at *
  generalize bg (q.den - 1) = b5 at *
  simp [go_sem]
  by_cases h1 : a1 = b1 <;> by_cases h2 : a2.toList = b2.toList <;> by_cases h3 : a3 = b3 <;> by_cases h4 : a4 = b4 <;> by_cases h5 : a5.toList = b5.toList <;> simp [h1, h2, h3, h4, h5] at h ⊢ <;> (try simp [h])
/-- the sparse forms agree just when the dense ones do -/
theorem rowOf_inj {f g : Nat → Rat} {M k : Nat} (h : rowOf f M = rowOf g M) (hk : k < M) : f k = g k := by
  by_cases hf : f k = 0
  · by_cases hg : g k = 0
    · rw [hf, hg]
    · have h1 : (k, g k) ∈ rowOf f M := by rw [h]; exact mem_rowOf.2 ⟨hk, hg, rfl⟩
      exact (mem_rowOf.1 h1).2.2.symm
  · have h1 : (k, f k) ∈ rowOf g M := by rw [← h]; exact mem_rowOf.2 ⟨hk, hf, rfl⟩
    exact (mem_rowOf.1 h1).2.2
theorem map_inj {α β : Type} {f : α → β} (hf : ∀ x y, f x = f y → x = y) : ∀ {l m : List α}, l.map f = m.map f → l = m
  | [], [], _ => rfl
  | [], _ :: _, h => by simp at h
  | _ :: _, [], h => by simp at h
  | x :: l, y :: m, h => by
    simp only [List.map_cons, List.cons.injEq] at h
    rw [hf x y h.1, map_inj hf h.2]
theorem cI_inj {x y : List Ent} (h : x.map cI = y.map cI) : x = y := by
  refine map_inj ?_ h
  rintro ⟨a, p⟩ ⟨b, q⟩ e
  simp only [cI, Prod.mk.injEq] at e
  exact Prod.ext (by omega) e.2
theorem gRows_inj {r c : Nat} {f g : Nat → Nat → Rat} (h : gRows r c f = gRows r c g) {i k : Nat} (hi : i < r) (hk : k < c) : f i k = g i k := by
  unfold gRows at h
  have h1 : mrows r c f = mrows r c g := map_inj (fun x y e => cI_inj e) h
  have h2 := congrArg (fun l => l.getD i []) h1
  simp only [mrows_getD c f hi, mrows_getD c g hi] at h2
  exact rowOf_inj h2 hk
end Gus
end
section
/- The dense form's elements; the closure that stores an entry. -/
namespace Gus
open Go Go.RowKit Go.Proofs
/-- the elements of a dense form of which these entries are not yet stored -/
def den (r c : Nat) (f : Nat → Nat → Rat) (t : List (Nat × Nat × Rat)) : List Rat := (List.range (r * c)).map fun p => if t.any (fun x => x.1 * c + x.2.1 == p) then 0 else f (p / c) (p % c)
def dense (r c : Nat) (f : Nat → Nat → Rat) : List Rat := (List.range (r * c)).map fun p => f (p / c) (p % c)
theorem dense_length (r c : Nat) (f : Nat → Nat → Rat) : (dense r c f).length = r * c := by simp [dense]
theorem pos_of {c i k : Nat} (hk : k < c) : (i * c + k) / c = i ∧ (i * c + k) % c = k := by
  have hc0 : 0 < c := by omega
  exact ⟨by rw [Nat.mul_comm, Nat.mul_add_div hc0, Nat.div_eq_of_lt hk, Nat.add_zero], by rw [Nat.mul_comm, Nat.mul_add_mod, Nat.mod_eq_of_lt hk]⟩
theorem pos_lt {r c i k : Nat} (hi : i < r) (hk : k < c) : i * c + k < r * c := by
  have := Nat.mul_le_mul_right c (show i + 1 ≤ r by omega)
  rw [Nat.add_mul, Nat.one_mul] at this
  omega
theorem pos_split {r c p : Nat} (hp : p < r * c) : p / c < r ∧ p % c < c ∧ p / c * c + p % c = p := by
  have hc0 : 0 < c := by
    rcases Nat.eq_zero_or_pos c with e | e
    · rw [e, Nat.mul_zero] at hp; omega
    · exact e
  exact ⟨by rw [Nat.div_lt_iff_lt_mul hc0]; exact hp, Nat.mod_lt _ hc0, by rw [Nat.mul_comm]; exact Nat.div_add_mod p c⟩
theorem dense_getD {r c i k : Nat} (f : Nat → Nat → Rat) (hi : i < r) (hk : k < c) : (dense r c f).getD (i * c + k) 0 = f i k := by
  have hp := pos_lt hi hk
  rw [List.getD_eq_getElem?_getD, List.getElem?_eq_getElem (by rw [dense_length]; exact hp)]
  simp [dense, (pos_of (i := i) hk).1, (pos_of (i := i) hk).2]
end Gus
end
section
/- gussetlaw16.SparsesSame. -/
namespace Gus
open Go Go.RowKit Go.Proofs
section
variable {P : Program} {ops : Array Oper} {w0 : World} {A : (Nat → Value) → Act} {T : Act → World → Prop} {i : Nat} {o : Oper} {os : List Oper} {V : Nat → (Nat → Value) → Value → World → Prop} {Φ : Nat → Bool}
end
theorem QAt.call {w w' : World} {a : Option Addr} {qs : List (Int × Int)} (h : QAt w a qs) (hb : Below w.heap.size w w') : QAt w' a qs := fun i hi => by
  obtain ⟨b, off, h1, h2, h3, h4⟩ := h i hi
  exact ⟨b, off, h1, Nat.lt_of_lt_of_le h2 hb.size, by rw [hb.cell (p := ⟨b, _, none⟩) h2]; exact h3, by rw [hb.cell (p := ⟨b, _, none⟩) h2]; exact h4⟩
/-- a row of fractions, with room behind them -/
def VRow (w : World) (g : Nat) (qs : List Rat) : Prop := ∃ rest, Bx w g 52 (fcl qs ++ rest)
theorem VRow.call {w w' : World} {g : Nat} {qs : List Rat} (h : VRow w g qs) (hb : Below w.heap.size w w') : VRow w' g qs := let ⟨r, h⟩ := h; ⟨r, h.call hb⟩
theorem VRow.own {w : World} {base n : Nat} {v : Value} {qs : List Rat} (h : w.ownsRow base 52 5 v n (fcl qs)) (hn : 0 < n) : ∃ g cap, v = .slice (some ⟨g, 0, none⟩) n cap ∧ base ≤ g ∧ VRow w g qs := by
  rcases h.2 with ⟨_, h0⟩ | ⟨g, cap, cur, rfl, hb, hg, _, _, _, ht⟩
  · omega
  · refine ⟨g, cap, rfl, hb, cur.toList.drop (n * 5), ?_⟩
    unfold Bx
    rw [← ht, List.take_append_drop, hg]
theorem VRow.other {w : World} {g : Nat} {qs : List Rat} {a : Addr} (h : VRow w g qs) (hne : a.block ≠ g) (u : Value) : VRow (w.setCell a u) g qs := let ⟨r, h⟩ := h; ⟨r, h.other hne u⟩
theorem fcl_at_app (qs : List Rat) (rest : List Value) {i j : Nat} (hi : i < qs.length) (hj : j < 5) : (fcl qs ++ rest)[i * 5 + j]? = (fcs (qs.getD i 0))[j]? := by
  rw [List.getElem?_append_left (by rw [fcl_length]; omega), fcl_at qs i j hi hj]
theorem VRow.at {w : World} {g : Nat} {qs : List Rat} (h : VRow w g qs) (n : Nat) (hn : n = qs.length) (cap : Nat) : VecAt w (.slice (some ⟨g, 0, none⟩) n cap) qs := by
  subst hn
  obtain ⟨rest, h⟩ := h
  exact ⟨_, _, rfl, fun i hi => ⟨g, 0, rfl, h.lt, fun j hj => by rw [h.cell, Nat.zero_add, fcl_at_app qs rest hi hj], _, _, h⟩⟩
theorem VRow.cells {w : World} {g : Nat} {qs : List Rat} (h : VRow w g qs) {i : Nat} (hi : i < qs.length) : ∃ A1 A2 A3 A4 A5, fracV (qs.getD i 0) = .agg #[.int .u64 A1, .string A2, .bool A3, .int .u64 A4, .string A5] ∧
    w.cell? ⟨g, i * 5, none⟩ = some (.int .u64 A1) ∧ w.cell? ⟨g, i * 5 + 1, none⟩ = some (.string A2) ∧ w.cell? ⟨g, i * 5 + 2, none⟩ = some (.bool A3) ∧ w.cell? ⟨g, i * 5 + 3, none⟩ = some (.int .u64 A4) ∧ w.cell? ⟨g, i * 5 + 4, none⟩ = some (.string A5) ∧
    w.frozen? ⟨g, i * 5, none⟩ = false ∧ w.frozen? ⟨g, i * 5 + 1, none⟩ = false ∧ w.frozen? ⟨g, i * 5 + 2, none⟩ = false ∧ w.frozen? ⟨g, i * 5 + 3, none⟩ = false ∧ w.frozen? ⟨g, i * 5 + 4, none⟩ = false := by
  obtain ⟨rest, h⟩ := h
  have hc := fun j hj => (h.cell (i * 5 + j)).trans (fcl_at_app qs rest hi hj)
  exact ⟨_, _, _, _, _, rfl, hc 0 (by decide), hc 1 (by decide), hc 2 (by decide), hc 3 (by decide), hc 4 (by decide), h.frozen _, h.frozen _, h.frozen _, h.frozen _, h.frozen _⟩
/-- a store into a dense matrix's own variable leaves the elements of every matrix -/
theorem VecAt.apart {w : World} {v x : Value} {qs : List Rat} {S n k : Nat} {p q : Int} {ao : Option Addr} (h : VecAt w v qs) (hS : Bx w S 96 [.int .i64 p, .int .i64 q, .slice ao n k]) (j : Nat) : VecAt (w.setCell ⟨S, j, none⟩ x) v qs := h.grown hS (by decide) (gr_cell w ⟨S, j, none⟩ x)
theorem VecAt.all {w : World} {n k : Nat} {a : Addr} {qs : List Rat} (h : VecAt w (.slice (some a) n k) qs) (j : Nat) (u : Value) (hj : (fcl qs)[j]? = some u) : w.cell? (a.add j) = some u := by
  obtain ⟨a', cap, h1, h2⟩ := h
  injection h1 with e1
  subst e1
  have hlt : j < qs.length * 5 := by
    have := (List.getElem?_eq_some_iff.1 hj).1
    rw [fcl_length] at this; exact this
  obtain ⟨b, off, h3, _, h5⟩ := h2 (j / 5) (by omega)
  injection h3 with h3
  subst h3
  have h6 := h5 (j % 5) (by omega)
  rw [← fcl_at qs (j / 5) (j % 5) (by omega) (by omega), show j / 5 * 5 + j % 5 = j by omega, hj, show off + j / 5 * 5 + j % 5 = off + j by omega] at h6
  rw [Addr.add_lit]
  exact h6
theorem fcl_one {qs : List Rat} : ∀ u ∈ fcl qs, u.oneCell' = true := fun u hu => by
  obtain ⟨q, _, h⟩ := List.mem_flatMap.1 hu
  simp only [fcs, List.mem_cons, List.not_mem_nil, or_false] at h
  rcases h with rfl | rfl | rfl | rfl | rfl <;> rfl
theorem MatAt.other {w : World} {ab ao L k r c g : Nat} {p q : Value} {qs : List Rat} (h : MatAt w (.agg #[p, q, .slice (some ⟨ab, ao, none⟩) L k]) r c qs) (hne : g ≠ ab) (j : Nat) (u : Value) : MatAt (w.setCell ⟨g, j, none⟩ u) (.agg #[p, q, .slice (some ⟨ab, ao, none⟩) L k]) r c qs := by
  obtain ⟨x, h1, h2, h3⟩ := h
  have h5 := h1
  simp only [Value.agg.injEq] at h1
  have h4 := congrArg Array.toList h1
  simp only [List.cons.injEq, and_true] at h4
  obtain ⟨a, cap, e1, e2⟩ := h3
  refine ⟨x, h5, h2, a, cap, e1, fun i hi => ?_⟩
  obtain ⟨b, off, e3, e4, e5⟩ := e2 i hi
  rw [← h4.2.2] at e1
  simp only [Value.slice.injEq] at e1
  obtain ⟨e1, _⟩ := e1
  rw [e3] at e1
  simp only [Option.some.injEq, Addr.mk.injEq, and_true] at e1
  exact ⟨b, off, e3, by rw [World.size_setCell]; exact e4, fun j' hj => by rw [World.cell?_setCell_other _ _ _ _ (by intro e; injection e with e6 e7; exact hne (e6.trans e1.1.symm))]; exact e5 j' hj, by rw [heap_setCell_other w ⟨g, j, none⟩ b u (show b ≠ g from fun e => hne (e.symm.trans e1.1.symm))]; exact e5.typed⟩
theorem MatAt.len {w : World} {p q : Value} {a : Option Addr} {L k r c : Nat} {qs : List Rat} (h : MatAt w (.agg #[p, q, .slice a L k]) r c qs) : L = r * c := by
  obtain ⟨x, h1, h2, h3⟩ := h
  obtain ⟨a', k', rfl⟩ := h3.shape
  simp only [Value.agg.injEq] at h1
  have h4 := congrArg Array.toList h1
  simp only [List.cons.injEq, Value.slice.injEq, and_true] at h4
  omega
end Gus
end
section
/- Arguments of the laws as they are read: fractions, slices of fractions, matrices; they read as before where nothing has turned. -/
namespace Gus
open Go Go.RowKit Go.Proofs Go.ChangeShapes Go.WideShapes Go.ChangeAt Go.Deep
section
variable {H : Type} {enc : TypeId × Value → H} {W : World} {base : Nat} {sp : Nat → Bool} {held : Bool}
theorem laidOut : laidOutB Tryz.prog = true := by kernel_rfl
theorem args_stay {W' : World} {sp' : Nat → Bool} (hb : Below W.heap.size W W') : ∀ {ts : List TypeId} {vs : List Value} {ds : List (DataW H)} {p : List MemPlace}, (∀ t ∈ ts, Tryz.prog.readableRec t = true ∧ t < Tryz.prog.types.size) → DataW.TrodAll enc Tryz.prog W 0 (fun _ => true) true ts vs ds p → (∀ x ∈ p, x.block < W.heap.size) → (∀ x ∈ p, sp' x.block = true) → DataW.TrodAll enc Tryz.prog W' 0 sp' true ts vs ds p
  | [], _, _, _, _, h, _, _ => by
    obtain ⟨rfl, rfl, rfl⟩ := trodAll_nil h
    exact trodAll_mk0
  | t :: ts, _, _, _, hts, h, hlt, hsp => by
    obtain ⟨v, vs, d, ds, p, q, rfl, rfl, rfl, h0, h1⟩ := trodAll_cons h
    exact trodAll_cons_mk (WideElems.Trod_stays laidOut (hts t (.head _)).1 (hts t (.head _)).2 h0 (fun x hx => hb.same (hlt x (List.mem_append.2 (.inl hx)))) (fun x hx => hsp x (List.mem_append.2 (.inl hx))))
      (args_stay hb (fun t ht => hts t (List.mem_cons_of_mem _ ht)) h1 (fun x hx => hlt x (List.mem_append.2 (.inr hx))) (fun x hx => hsp x (List.mem_append.2 (.inr hx))))
theorem cell_in {w : World} {a : Addr} {v : Value} (h : w.cell? a = some v) : a.block < w.heap.size := by
  rcases Nat.lt_or_ge a.block w.heap.size with h1 | h1
  · exact h1
  · have : w.heap[a.block]? = none := by simp [h1]
    simp [World.cell?, this] at h
set_option maxRecDepth 100000 in
theorem open_qs {fuel : Nat} {cs : List Value} {x : DataW H × List MemPlace} (h : DataW.trod enc Tryz.prog W base sp held fuel 25 cs = some x) :
    ∃ a qs cap, cs = [.slice a (List.length qs) cap] ∧ QAt W a qs ∧ QOk qs ∧ qs.length ≤ maxLen := by
  rcases open_slice_pairs (P := Tryz.prog) Tryz.underlying25 Tryz.underlying82 (by kernel_rfl) rfl rfl (by kernel_rfl) (by kernel_rfl) h with ⟨rfl, _⟩ | ⟨a, len, cap, m, n, V0, V1, D0, D1, P0, P1, rfl, _, hlc, hcm, hm, _, hx⟩
  · exact ⟨none, [], 0, rfl, fun i hi => absurd hi (Nat.not_lt_zero _), fun p hp => by (cases hp), Nat.zero_le _⟩
  · have hlm : len ≤ m := by rw [hm]; split <;> omega
    have hz : ∀ i, i < len → ∃ z0 z1 : Int, V0 i = .int .i64 z0 ∧ V1 i = .int .u32 z1 ∧ (Lit.int .i64 z0).wf = true ∧ (Lit.int .u32 z1).wf = true := fun i hi => by
      obtain ⟨_, _, h2, h3⟩ := hx i (by omega)
      obtain ⟨z0, g0, _, w0⟩ := DataW.trod_int Tryz.underlying2 h2
      obtain ⟨z1, g1, _, w1⟩ := DataW.trod_int Tryz.underlying80 h3
      simp only [List.cons.injEq, and_true] at g0 g1
      exact ⟨z0, z1, g0, g1, w0, w1⟩
    refine ⟨some a, (List.range len).map fun i => (RowKit.intOf (V0 i), RowKit.intOf (V1 i)), cap, by rw [List.length_map, List.length_range], fun i hi => ?_, fun p hp => ?_, by rw [List.length_map, List.length_range]; omega⟩
    · rw [List.length_map, List.length_range] at hi
      obtain ⟨z0, z1, e0, e1, _, _⟩ := hz i hi
      obtain ⟨c0, c1, _, _⟩ := hx i (by omega)
      obtain ⟨b, off, spot⟩ := a
      obtain rfl : spot = none := by
        have hs := World.cell?_spot (hx 0 (by omega)).1
        simpa [Addr.add] using hs
      rw [add_plain] at c0 c1
      refine ⟨b, off, rfl, cell_in c0, ?_, ?_⟩
      · rw [Nat.mul_comm, c0, e0]; simp [hi, e0, RowKit.intOf]
      · rw [Nat.mul_comm, Nat.add_assoc, c1, e1]; simp [hi, e1, RowKit.intOf]
    · obtain ⟨i, hi, rfl⟩ := List.mem_map.1 hp
      obtain ⟨z0, z1, e0, e1, w0, w1⟩ := hz i (List.mem_range.1 hi)
      have b0 := bounds_i64 w0
      have b1 := bounds_u32 w1
      simp only [e0, e1, RowKit.intOf]
      exact ⟨b0.1, by omega, b1.1, by omega⟩
set_option maxRecDepth 100000 in
theorem open_vec {b0 : Nat} {v : Value} {d : DataW H} {ps : List MemPlace} (hval : Value.okWide Tryz.prog W .any b0 25 v) (hd : DataW.Trod enc Tryz.prog W base sp held 25 v d ps) :
    ∃ a qs cap, v = .slice a (List.length qs) cap ∧ QAt W a qs ∧ QOk qs ∧ qs.length ≤ maxLen := by
  obtain ⟨a, len, cap, rfl⟩ := okWide_slice Tryz.underlying25 hval
  obtain ⟨fuel, hf⟩ := hd
  obtain ⟨a', qs, cap', e, h1, h2, h3⟩ := open_qs hf
  simp [Value.cells] at e
  obtain ⟨rfl, rfl, rfl⟩ := e
  exact ⟨a, qs, cap, rfl, h1, h2, h3⟩
end
end Gus
end
section
/- sparses.Items. -/
namespace Gus
open Go Go.RowKit Go.Proofs
theorem ownsRow_below {w w' : World} {base : Nat} {e : TypeId} {size : Nat} {v : Value} {n : Nat} {xs : List Value} (h : w.ownsRow base e size v n xs) (hb : Below w.heap.size w w') : w'.ownsRow base e size v n xs :=
  h.kept (row := none) ⟨hb.os, hb.tape, hb.output, hb.size, fun k hk _ => hb.block k hk⟩ (by cases v.ownBlock <;> simp)
end Gus
end
section
/- The items of a dense matrix's sparse form, in order; results of both Parts together. -/
namespace Gus
open Go Go.RowKit Go.Proofs
theorem itemsF_append : ∀ (A B : List (List Ent)) (i : Nat), itemsF i (A ++ B) = itemsF i A ++ itemsF (i + A.length) B
  | [], B, i => by simp [itemsF]
  | x :: A, B, i => by
    rw [List.cons_append, itemsF, itemsF, itemsF_append A B (i + 1), List.append_assoc, List.length_cons, show i + 1 + A.length = i + (A.length + 1) by omega]
theorem mrows_succ (r c : Nat) (f : Nat → Nat → Rat) : mrows (r + 1) c f = mrows r c f ++ [rowOf (f r) c] := by
  unfold mrows rowsL
  rw [List.range_succ, List.map_append, List.map_singleton]
/-- what sparses.Part gives, whether or not the indices are in range -/
def PRes (bad : Bool) (nr nc : Nat) (F : Nat → Nat → Rat) (w : World) (v : Value) (e : Int) : Prop :=
  (∃ pn pm pa pl pk, v = .agg #[.int .i64 pn, .int .i64 pm, .slice pa pl pk]) ∧ ((bad = true ∧ e = 1 ∧ v = zeroSp) ∨ (bad = false ∧ e = 0 ∧ SpM w v nr nc F))
def DRes (bad : Bool) (nr nc : Nat) (F : Nat → Nat → Rat) (w : World) (v : Value) (e : Int) : Prop :=
  (∃ pn pm pa pl pk, v = .agg #[.int .i64 pn, .int .i64 pm, .slice pa pl pk]) ∧ ((bad = true ∧ e = 1 ∧ v = zeroSp) ∨ (bad = false ∧ e = 0 ∧ MatAt w v nr nc (dense nr nc F)))
theorem PRes.call {bad : Bool} {nr nc : Nat} {F : Nat → Nat → Rat} {w w' : World} {v : Value} {e : Int} (h : PRes bad nr nc F w v e) (hb : Below w.heap.size w w') : PRes bad nr nc F w' v e :=
  ⟨h.1, h.2.imp id fun h => ⟨h.1, h.2.1, h.2.2.call hb⟩⟩
theorem DRes.call {bad : Bool} {nr nc : Nat} {F : Nat → Nat → Rat} {w w' : World} {v : Value} {e : Int} (h : DRes bad nr nc F w v e) (hb : Below w.heap.size w w') : DRes bad nr nc F w' v e :=
  ⟨h.1, h.2.imp id fun h => ⟨h.1, h.2.1, h.2.2.call hb⟩⟩
end Gus
end
