/- Proved here: parts of the proof: Mtx Sml Ofd Msm Dns Dnb Lof Sma. Conditions: those that each theorem states. -/
import Derived.Test.YtjiobckoldnonaaGreatDoorSameQ
import Derived.Handy
section
/- The laws' matrices: (gussetlaw13.M).Of; a dense matrix as it is read. -/
namespace Gus
open Go Go.RowKit Go.Proofs
theorem VecAt.own {w : World} {base : Nat} {e : TypeId} {v : Value} {qs : List Rat} (h : w.ownsRow base e 5 v qs.length (fcl qs)) : VecAt w v qs := by
  rcases h.2 with ⟨rfl, hn⟩ | ⟨g, cap, cur, rfl, hb, hg, hrest⟩
  · rw [List.length_eq_zero_iff] at hn
    subst hn
    exact VecAt.nil w none 0
  · refine ⟨some ⟨g, 0, none⟩, cap, rfl, fun i hi => ⟨g, 0, rfl, (Array.getElem?_eq_some_iff.1 hg).1, fun j hj => ?_⟩⟩
    have hk := fcl_at qs i j hi hj
    have hj5 : j < (fcs (qs.getD i 0)).length := hj
    rw [List.getElem?_eq_getElem hj5] at hk ⊢
    have := h.cells (g := g) rfl (i * 5 + j) _ hk
    rw [Nat.zero_add, ← this]
    unfold Addr.add
    split <;> simp_all
/-- a dense matrix: its sides, its elements row by row -/
def MatAt (w : World) (v : Value) (r c : Nat) (qs : List Rat) : Prop := ∃ x, v = .agg #[.int .i64 r, .int .i64 c, x] ∧ qs.length = r * c ∧ VecAt w x qs
theorem MatAt.call {w w' : World} {v : Value} {r c : Nat} {qs : List Rat} (h : MatAt w v r c qs) (hb : Below w.heap.size w w') : MatAt w' v r c qs :=
  let ⟨x, h1, h2, h3⟩ := h; ⟨x, h1, h2, h3.call hb⟩
theorem MatAt.shape {w : World} {v : Value} {r c : Nat} {qs : List Rat} (h : MatAt w v r c qs) : ∃ a cap, v = .agg #[.int .i64 r, .int .i64 c, .slice a qs.length cap] := by
  obtain ⟨x, rfl, _, h3⟩ := h
  obtain ⟨a, cap, rfl⟩ := h3.shape
  exact ⟨a, cap, rfl⟩
set_option maxRecDepth 100000 in
set_option maxHeartbeats 2000000 in
theorem mof_any (w : World) (R0 C0 : Nat) (hR : R0 < 256) (hC : C0 < 256) (a : Option Addr) (cap : Nat) (qs : List (Int × Int)) (hq : QAt w a qs) (hok : QOk qs) (hl : qs.length ≤ 1000) :
    Calls Tryz.prog 25 #[.agg #[.int .u8 R0, .int .u8 C0, .slice a qs.length cap]] w fun e w' => (∃ v, e = .returned v ∧ MatAt w' v (R0 % 7) (C0 % 7) (mList qs (R0 % 7 * (C0 % 7)))) ∧ Below w.heap.size w w' := by
  have c1 := fun W (h : QAt W a qs) => some_any W R0 C0 a cap qs (R0 % 7) (C0 % 7) h hok (by omega) (by omega) hl
  obtain ⟨r, hr⟩ : ∃ r, r = R0 % 7 := ⟨_, rfl⟩
  obtain ⟨c, hc⟩ : ∃ c, c = C0 % 7 := ⟨_, rfl⟩
  rw [← hr, ← hc] at c1 ⊢
  have er : (R0 : Int) % 7 = (r : Int) := by rw [hr]; omega
  have ec : (C0 : Int) % 7 = (c : Int) := by rw [hc]; omega
  have ER := Lib.hid er
  have EC := Lib.hid ec
  clear er ec
  have HR := Lib.hid hr
  have HC := Lib.hid hc
  clear hr hc
  have HQ := Lib.hid hq
  have HL := Lib.hid hl
  clear hq hl
  obtain ⟨L, hL⟩ : ∃ L, L = qs.length := ⟨_, rfl⟩
  obtain ⟨X, hX⟩ : ∃ X, X = w.heap.size := ⟨_, rfl⟩
  have HX := Lib.hid hX
  go_enter Tryz.func25, Tryz.ntmps25
  go_wp2_with fail
  rw [ER.out, EC.out]
  have hq1 : QAt ((w.alloc (.cells #[.int .u8 R0, .int .u8 C0, .slice a qs.length cap] 74)).alloc (.cells #[.int .i64 0, .int .i64 0, .slice none 0 0] 78)) a qs := fun i hi => by
    obtain ⟨b, off, h1, h2, h3, h4⟩ := HQ.out i hi
    have hbw : Below w.heap.size w ((w.alloc (.cells #[.int .u8 R0, .int .u8 C0, .slice a qs.length cap] 74)).alloc (.cells #[.int .i64 0, .int .i64 0, .slice none 0 0] 78)) := ((Below.refl _ _).alloc (Nat.le_refl _) _).alloc (by simp) _
    exact ⟨b, off, h1, Nat.lt_of_lt_of_le h2 hbw.size, by rw [hbw.cell (p := ⟨b, _, none⟩) h2]; exact h3, by rw [hbw.cell (p := ⟨b, _, none⟩) h2]; exact h4⟩
  have br := Bx.new (w.alloc (.cells #[.int .u8 R0, .int .u8 C0, .slice a qs.length cap] 74)) #[.int .i64 0, .int .i64 0, .slice none 0 0] 78
  have hin : In X w ((w.alloc (.cells #[.int .u8 R0, .int .u8 C0, .slice a qs.length cap] 74)).alloc (.cells #[.int .i64 0, .int .i64 0, .slice none 0 0] 78)) := by
    rw [hX]; exact ((In.self w).alloc _).alloc _
  ((with_reducible refine (c1 _ hq1).mono ?_))
  rintro e w1 ⟨v, rfl, hv, hbel⟩
  obtain ⟨n, hn⟩ : ∃ n, n = r * c := ⟨_, rfl⟩
  obtain ⟨av, cv, rfl⟩ : ∃ av cv, v = .slice av n cv := by
    obtain ⟨av, cv, h⟩ := (VecAt.own (by rw [mList_length]; exact hv)).shape
    rw [mList_length, ← hn] at h
    exact ⟨av, cv, h⟩
  have HN := Lib.hid hn
  rw [← hn] at hv
  clear hn
  obtain ⟨b2, hb2⟩ : ∃ b2, b2 = w.heap.size + 1 := ⟨_, rfl⟩
  have hsz : (w.alloc (.cells #[.int .u8 R0, .int .u8 C0, .slice a qs.length cap] 74)).heap.size = b2 := by rw [hb2]; simp
  rw [hsz] at br
  have hlt : b2 < ((w.alloc (.cells #[.int .u8 R0, .int .u8 C0, .slice a qs.length cap] 74)).alloc (.cells #[.int .i64 0, .int .i64 0, .slice none 0 0] 78)).heap.size := by rw [hb2]; simp
  have br1 := br.call hbel
  have hin1 := hin.call hbel
  have hXb : X ≤ b2 := by omega
  have hv6 := ownsRow_setCell_low (a := ⟨b2, 2, none⟩) (ownsRow_setCell_low (a := ⟨b2, 1, none⟩) (ownsRow_setCell_low (a := ⟨b2, 0, none⟩) hv hlt (.int .i64 r)) hlt (.int .i64 c)) hlt (.slice av n cv)
  have br6 := ((br1.set 0 (.int .i64 r)).set 1 (.int .i64 c)).set 2 (.slice av n cv)
  have hin6 := ((hin1.setCell (p := ⟨b2, 0, none⟩) (by simpa using hXb) (.int .i64 r)).setCell (p := ⟨b2, 1, none⟩) (by simpa using hXb) (.int .i64 c)).setCell (p := ⟨b2, 2, none⟩) (by simpa using hXb) (.slice av n cv)
  have f0 := br1.frozen 0
  have f1 := br1.frozen 1
  have f2 := br1.frozen 2
  have d0 := br1.c0
  have d1 := br1.c1
  have d2 := br1.c2
  have hl1 := br1.lt
  have H1 := Lib.hid hv6
  have H2 := Lib.hid br6
  have H3 := Lib.hid hin6
  rw [← hb2]
  clear hb2
  clear hv6 br6 hin6 hv hbel br br1 hin hin1 hq1 c1 hlt hsz hX
  go_wp2_with fail
  have h1 := H1.out
  have h2 := H2.out
  have h3 := H3.out
  have e0 := h2.cell 0
  have e1 := h2.cell 1
  have e2 := h2.cell 2
  clear H1 H2 H3 f0 f1 f2 d0 d1 d2 hl1
  generalize ((w1.setCell ⟨b2, 0, none⟩ (.int .i64 r)).setCell ⟨b2, 1, none⟩ (.int .i64 c)).setCell ⟨b2, 2, none⟩ (.slice av n cv) = W6 at *
  have e0' : W6.cell? ⟨b2, 0, none⟩ = some (.int .i64 r) := e0
  have e1' : W6.cell? ⟨b2, 1, none⟩ = some (.int .i64 c) := e1
  have e2' : W6.cell? ⟨b2, 2, none⟩ = some (.slice av n cv) := e2
  have hva : VecAt W6 (.slice av n cv) (mList qs (r * c)) := by rw [← HN.out]; exact VecAt.own (by rw [mList_length]; exact h1)
  have hbw : Below w.heap.size w W6 := by have := h3.bel; rw [HX.out] at this; exact this
  refine bodyPost_ret (v := .agg #[.int .i64 r, .int .i64 c, .slice av n cv]) ?_ rfl ⟨⟨_, rfl, _, rfl, mList_length _ _, hva⟩, hbw⟩
  simp [results, Tryz.results25, go_sem, e0', e1', e2']
end Gus
end
section
/- gussetlaw16.small on two matrices. -/
namespace Gus
open Go Go.RowKit Go.Proofs
set_option maxRecDepth 100000 in
set_option maxHeartbeats 2000000 in
theorem small_two (w : World) (b : Nat) (T : TypeId) (R0 C0 R1 C1 : Int) (a d : Option Addr) (la lb ca cb : Nat) (hla : la < 9223372036854775808) (hlb : lb < 9223372036854775808) (hB : Bx w b T [.int .u8 R0, .int .u8 C0, .slice a la ca, .int .u8 R1, .int .u8 C1, .slice d lb cb]) :
    Calls Tryz.prog 24 #[.slice (some ⟨b, 0, none⟩) 2 2] w fun e w' => e = .returned (.bool (decide (la ≤ 40) && decide (lb ≤ 40))) ∧ Below w.heap.size w w' := by
  have hlt := hB.lt
  have e2 : w.cell? ⟨b, 2, none⟩ = some (.slice a la ca) := hB.cell 2
  have e5 : w.cell? ⟨b, 5, none⟩ = some (.slice d lb cb) := hB.cell 5
  clear hB
  have hbel := Below.refl w.heap.size w
  by_cases h1 : la ≤ 40
  · by_cases h2 : lb ≤ 40
    · have k1 : ¬ ((40 : Int) < la) := by omega
      have k2 : ¬ ((40 : Int) < lb) := by omega
      go_enter Tryz.func24, Tryz.ntmps24
      go_wp2_with fail
      go_rounds 3
      exact bodyPost_ret (v := .bool true) (by simp [results, Tryz.results24, go_sem, *]) rfl ⟨by simp [h1, h2], hbel⟩
    · have k1 : ¬ ((40 : Int) < la) := by omega
      have k2 : (40 : Int) < lb := by omega
      go_enter Tryz.func24, Tryz.ntmps24
      go_wp2_with fail
      go_rounds 3
      exact bodyPost_ret (v := .bool false) (by simp [results, Tryz.results24, go_sem, *]) rfl ⟨by simp [h1, h2], hbel⟩
  · have k1 : (40 : Int) < la := by omega
    go_enter Tryz.func24, Tryz.ntmps24
    go_wp2_with fail
    go_rounds 3
    exact bodyPost_ret (v := .bool false) (by simp [results, Tryz.results24, go_sem, *]) rfl ⟨by simp [h1], hbel⟩
end Gus
end
section
/- sparses.OfDense. -/
namespace Gus
open Go Go.RowKit Go.Proofs
/-- the items of a dense matrix's first elements -/
def dItm (c : Nat) (qs : List Rat) (p : Nat) : List (Nat × Nat × Rat) := (List.range p).map fun t => (t / c, t % c, qs.getD t 0)
theorem dItm_succ (c : Nat) (qs : List Rat) (p : Nat) : dItm c qs (p + 1) = dItm c qs p ++ [(p / c, p % c, qs.getD p 0)] := by simp [dItm, List.range_succ]
set_option maxRecDepth 100000 in
set_option maxHeartbeats 4000000 in
theorem ofd_ok {j : Nat} (w : World) (r c : Nat) (a : Option Addr) (n cap : Nat) (qs : List Rat) (hv : VecAt w (.slice a n cap) qs) (hn : n = r * c) (hl : qs.length = n) (hr : r ≤ 2048) (hc : c ≤ 2048) (hz : ∀ i, SzK j (qs.getD i 0)) (hcap : n * (j + 1) + 1 < 17592186044416) (hk : checkM r c n = 0) :
    Calls Tryz.prog 26 #[.agg #[.int .i64 r, .int .i64 c, .slice a n cap]] w fun e w' => (∃ s, e = .returned (.tuple #[s, .int .i64 0]) ∧ SpN w' w.heap.size s r c (foldA (fun _ _ => 0) (dItm c qs n))) ∧ Below w.heap.size w w' := by
  have h0 := fun W => mcheck_any r c a n cap W
  rw [hk] at h0
  have h1 := begun_any r c
  obtain ⟨X, hX⟩ : ∃ X, X = w.heap.size := ⟨_, rfl⟩
  have HX := Lib.hid hX
  have HV := Lib.hid hv
  have HL := Lib.hid hl
  have HN := Lib.hid hn
  have HZ := Lib.hid hz
  have HC := Lib.hid hcap
  clear hv hl hn hz hcap hk
  go_enter Tryz.func26, Tryz.ntmps26
  go_wp2_with fail
  obtain ⟨Y, hY⟩ : ∃ Y, Y = (w.alloc (.cells #[.int .i64 r, .int .i64 c, .slice a n cap] 78)).heap.size := ⟨_, rfl⟩
  have hYX : Y = X + 1 := by rw [hY, hX]; simp
  have bm := (Bx.new_at w #[.int .i64 r, .int .i64 c, .slice a n cap] 78 hX).alloc (.cells #[.int .i64 0, .int .i64 0, .slice none 0 0] 63)
  have br := Bx.new_at (w.alloc (.cells #[.int .i64 r, .int .i64 c, .slice a n cap] 78)) #[.int .i64 0, .int .i64 0, .slice none 0 0] 63 hY
  have hin : In X w ((w.alloc (.cells #[.int .i64 r, .int .i64 c, .slice a n cap] 78)).alloc (.cells #[.int .i64 0, .int .i64 0, .slice none 0 0] 63)) := by rw [hX]; exact ((In.self w).alloc _).alloc _
  rw [← hX, ← hYX]
  have HYX := Lib.hid hYX
  clear hX hY hYX
  ((with_reducible refine (h0 _).mono ?_))
  rintro e w1 ⟨rfl, hbel⟩
  replace bm := bm.call hbel
  replace br := br.call hbel
  replace hin := hin.call hbel
  clear hbel h0
  have m0 := bm.c0
  have m1 := bm.c1
  have m2 := bm.c2
  have hml := bm.lt
  go_wp2_with fail
  ((with_reducible refine (h1 _).mono ?_))
  rintro e w2 ⟨rfl, hB, hbel⟩
  obtain ⟨b, hb⟩ : ∃ b, b = w1.heap.size := ⟨_, rfl⟩
  have hYb : Y < b := by have := br.lt; omega
  rw [← hb] at hB ⊢
  replace bm := bm.call hbel
  replace br := br.call hbel
  have hXb : X ≤ b := by have := hin.siz; omega
  replace hin := hin.call hbel
  clear hbel h1 hb m0 m1 m2 hml
  have m0 := bm.c0
  have m1 := bm.c1
  have m2 := bm.c2
  have hml := bm.lt
  have hn4 : n ≤ 4194304 := by rw [HN.out]; exact Nat.mul_le_mul hr hc
  have hn63 : (n : Int) < 9223372036854775807 := by omega
  go_wp2_with fail
  go_loopw [22] (fun v22 wr => ∃ p : Nat, p ≤ n ∧ v22 = .int .i64 p ∧ In X w wr ∧ Bx wr X 78 [.int .i64 r, .int .i64 c, .slice a n cap] ∧ Bx wr Y 63 [.int .i64 0, .int .i64 0, .slice none 0 0] ∧ BB wr (b + 1) b p r c (foldA (fun _ _ => 0) (dItm c qs p)) ∧ (∀ x y, SzK (1 + p * (j + 1)) (foldA (fun _ _ => 0) (dItm c qs p) x y))) (fun v22 _ => n - (RowKit.intOf v22).toNat)
  case atStart => exact ⟨0, Nat.zero_le _, rfl, hin, bm, br, hB, fun _ _ => (show SzK _ 0 from SzK.zero.mono (by omega))⟩
  case round =>
    clear hin bm br hB m0 m1 m2 hml
    obtain ⟨p, hp, rfl, hin, bm, br, hB, hsz⟩ := hrel
    by_cases hpn : p < n
    · obtain ⟨b2, off, cap2, A1, A2, A3, A4, A5, hva, hb2, hA, hA2, d0, d1, d2, d3, d4⟩ := HV.out.at (i := p) (by rw [HL.out]; exact hpn)
      obtain rfl : a = some ⟨b2, off, none⟩ := by injection hva
      rw [← HX.out] at hb2
      obtain ⟨q, hq⟩ : ∃ q, q = qs.getD p 0 := ⟨_, rfl⟩
      rw [← hq] at hA hA2
      replace d0 := (hin.cell b2 (off + p * 5) hb2).trans d0
      replace d1 := (hin.cell b2 (off + p * 5 + 1) hb2).trans d1
      replace d2 := (hin.cell b2 (off + p * 5 + 2) hb2).trans d2
      replace d3 := (hin.cell b2 (off + p * 5 + 3) hb2).trans d3
      replace d4 := (hin.cell b2 (off + p * 5 + 4) hb2).trans d4
      have hbw : b2 < wr.heap.size := by have := hin.siz; omega
      have hpI : (p : Int) < n := by omega
      have hp0 : (0 : Int) ≤ p := by omega
      have hpw : IntKind.i64.wrap ((p : Int) + 1) = ((p + 1 : Nat) : Int) := IntWalk.i64_in _ (by omega)
      have m0 := bm.c0
      have m1 := bm.c1
      have m2 := bm.c2
      have hml := bm.lt
      clear hva
      go_upto_region 8 with fail
      have hc0 : 0 < c := by
        rcases Nat.eq_zero_or_pos c with h | h
        · have := HN.out; rw [h, Nat.mul_zero] at this; omega
        · exact h
      have hcn : ¬ c = 0 := by omega
      obtain ⟨Z, hZ⟩ : ∃ Z, Z = wr.heap.size := ⟨_, rfl⟩
      have bz := Bx.new_at wr #[.int .u64 A1, .string A2, .bool A3, .int .u64 A4, .string A5] 56 hZ
      have hin2 := hin.alloc (.cells #[.int .u64 A1, .string A2, .bool A3, .int .u64 A4, .string A5] 56)
      have bm2 := bm.alloc (.cells #[.int .u64 A1, .string A2, .bool A3, .int .u64 A4, .string A5] 56)
      have br2 := br.alloc (.cells #[.int .u64 A1, .string A2, .bool A3, .int .u64 A4, .string A5] 56)
      have hB2 := hB.alloc (.cells #[.int .u64 A1, .string A2, .bool A3, .int .u64 A4, .string A5] 56)
      rw [← hZ]
      clear hZ hin bm br hB d0 d1 d2 d3 d4 m0 m1 m2 hml hbw
      generalize wr.alloc (.cells #[.int .u64 A1, .string A2, .bool A3, .int .u64 A4, .string A5] 56) = W1 at *
      have m1 := bm2.c1
      have hml := bm2.lt
      have x0 := bz.c0
      have x1 := bz.c1
      have x2 := bz.c2
      have x3 := bz.c3
      have x4 := bz.c4
      have hzl := bz.lt
      have hcc := hc
      refine wp_region_flow 10 (by kernel_rfl) (by kernel_rfl) (fun _ _ d _ _ h => by cases d <;> exact h) ?_; simp only [List.take_succ_cons, List.take_zero, List.drop_succ_cons, List.drop_zero]; simp only [putAll, Act.put, List.setIfInBounds_toArray, List.set]; (try simp only [Nat.reduceAdd]); (try simp only [Nat.zero_add]); (repeat (first | ((with_reducible refine flow_float (v := ?_) ?_ ?_ ?_); rotate_left 1; (focus (with_reducible rfl)); (focus (intro u w1 hw hd w2; (try simp only [depH] at hd); (try simp only [ext] at hd); (try simp only [Nat.reduceAdd] at hd); (try simp only [Nat.reduceEqDiff] at hd); (try simp only [reduceIte] at hd); (try simp only [if_true] at hd); (try simp only [if_false] at hd); (try simp only [and_true] at hd); (try simp only [true_and] at hd); go_simp; exact rfl))) | ((with_reducible refine flow_pure0 (v := ?_) ?_ ?_ ?_ ?_); rotate_left 1; (focus (with_reducible rfl)); (focus rfl); (focus (intro u w1 hw hd; (try simp only [depH] at hd); (try simp only [ext] at hd); (try simp only [Nat.reduceAdd] at hd); (try simp only [Nat.reduceEqDiff] at hd); (try simp only [reduceIte] at hd); (try simp only [if_true] at hd); (try simp only [if_false] at hd); (try simp only [and_true] at hd); (try simp only [true_and] at hd); have hc' := hw.cell; go_simp; exact rfl))) | ((with_reducible refine flow_skipg (j := ?_) (b := ?_) ?_ ?_ ?_); rotate_left 2; (focus (with_reducible rfl)); (focus (intro u w1 hw hd; (try simp only [depH] at hd); (try simp only [ext] at hd); (try simp only [Nat.reduceAdd] at hd); (try simp only [Nat.reduceEqDiff] at hd); (try simp only [reduceIte] at hd); (try simp only [if_true] at hd); (try simp only [if_false] at hd); (try simp only [and_true] at hd); (try simp only [true_and] at hd); simp [yielded, hd]; done))) | ((with_reducible refine flow_pureg (v := ?_) (j := ?_) (b := ?_) ?_ ?_ ?_ ?_); rotate_left 3; (focus (with_reducible rfl)); (focus (intro u w1 hw hd; (try simp only [depH] at hd); (try simp only [ext] at hd); (try simp only [Nat.reduceAdd] at hd); (try simp only [Nat.reduceEqDiff] at hd); (try simp only [reduceIte] at hd); (try simp only [if_true] at hd); (try simp only [if_false] at hd); (try simp only [and_true] at hd); (try simp only [true_and] at hd); simp [yielded, hd]; done)); (focus (intro u w1 hw hd; (try simp only [depH] at hd); (try simp only [ext] at hd); (try simp only [Nat.reduceAdd] at hd); (try simp only [Nat.reduceEqDiff] at hd); (try simp only [reduceIte] at hd); (try simp only [if_true] at hd); (try simp only [if_false] at hd); (try simp only [and_true] at hd); (try simp only [true_and] at hd); have hc' := hw.cell; go_simp; exact rfl))) | ((with_reducible refine flow_alloc (t := ?_) (zs := ?_) ?_ ?_ ?_ ?_); rotate_left 2; (focus (with_reducible rfl)); (focus rfl); (focus (intro u w1; go_simp; exact rfl)))))
      (try clear hc hf h); intro u w' h ha hdi; replace h := h.ins; (try simp only [World.size_alloc] at h); (try dsimp only at ha); (repeat rw [World.size_alloc] at ha); (try simp only [allH] at ha); (try simp only [ext] at ha); (try simp only [Nat.reduceAdd] at ha); (try simp only [Nat.reduceEqDiff] at ha); (try simp only [reduceIte] at ha); (try simp only [if_true] at ha); (try simp only [if_false] at ha); (try simp only [and_true] at ha); (try simp only [true_and] at ha); have hc := h.cell; have hf := h.frozen
      obtain ⟨y, hy⟩ : ∃ y, y = p / c := ⟨_, rfl⟩
      obtain ⟨z, hzz⟩ : ∃ z, z = p % c := ⟨_, rfl⟩
      have hyp : y ≤ p := by rw [hy]; exact Nat.div_le_self p c
      have hpc : IntKind.i64.wrap ((p : Int) / c) = (y : Int) := by
        rw [show (p : Int) / c = ((p / c : Nat) : Int) from rfl, ← hy]
        exact IntWalk.i64_in _ (by omega)
      have hpm : (p : Int).tmod c = (z : Int) := by rw [hzz]; rfl
      (try obtain ha := ha); (try dsimp only);  simp only [ha, hpc, hpm]; clear ha hdi hpc hpm
      have hi : y < r := by
        rw [hy, Nat.div_lt_iff_lt_mul hc0, ← HN.out]; exact hpn
      have hk' : z < c := by rw [hzz]; exact Nat.mod_lt _ hc0
      have hpj : (p + 1) * (j + 1) ≤ n * (j + 1) := Nat.mul_le_mul_right _ (by omega)
      have hcl := HC.out
      have hzx := HZ.out p
      rw [← hq] at hzx
      have ha := badd_in (s := 1 + p * (j + 1)) (j := j) w' (b + 1) b p r c _ y z q (hB2.call h.bel) hi hk' hr hcc (by simp only [maxLen]; omega) (by omega) (hsz _ _) hzx (by rw [Nat.add_mul, Nat.one_mul] at hpj; omega)
      have e1 : setF (foldA (fun _ _ => 0) (dItm c qs p)) y z (foldA (fun _ _ => 0) (dItm c qs p) y z + q) = foldA (fun _ _ => 0) (dItm c qs (p + 1)) := by
        rw [dItm_succ, foldA_snoc, ← hq, ← hy, ← hzz]; rfl
      have hsz2 := SzK_foldA (x := (y, z, q)) hsz hzx
      rw [show addF (foldA (fun _ _ => 0) (dItm c qs p)) (y, z, q) = foldA (fun _ _ => 0) (dItm c qs (p + 1)) from e1] at hsz2
      rw [e1, hA2] at ha
      have HZ2 := Lib.hid hsz2
      have hin3 := hin2.call h.bel
      have bm3 := bm2.call h.bel
      have br3 := br2.call h.bel
      clear hsz2 e1 hq hy hzz hyp hA hA2 hzx hsz hi hk' hpj hcl hB2 hin2 bm2 br2 bz m1 hml x0 x1 x2 x3 x4 hzl hc hf h
      go_wp2_with fail
      ((with_reducible refine ha.mono ?_))
      rintro e w4 ⟨rfl, hB4, hg⟩
      have hin4 := hin3.grown hg (by omega)
      have br4 := br3.grown hg (by simp; omega)
      have bm4 := bm3.grown hg (by have := HYX.out; simp; omega)
      clear ha hg hin3 br3 bm3
      go_wp2_with fail
      exact ⟨⟨p + 1, by omega, by go_num, hin4, bm4, br4, hB4, fun x y => (HZ2.out x y).mono (by rw [Nat.add_mul]; omega)⟩, by simp [RowKit.intOf]; omega⟩
    · have hpI : ¬ (p : Int) < n := by omega
      obtain rfl : p = n := by omega
      have hsp := bsparse_any wr (b + 1) b p r c _ hB hr hc
      have hXw := hin.siz
      obtain rfl := HYX.out
      clear hB hsz bm
      go_wp2_with fail
      ((with_reducible refine hsp.mono ?_))
      rintro e w5 ⟨v5, rfl, hv5, hb5⟩
      ((obtain ⟨R, h5⟩ : ∃ R, v5 = .agg #[(.int .i64 ((r : Nat) : Int)), (.int .i64 ((c : Nat) : Int)), (.slice (some ⟨R, 0, none⟩) (r) (r))] := by (obtain ⟨R, _, h, _⟩ := hv5; exact ⟨R, h⟩)); (have br5 := br.call hb5); (have hin5 := hin.call hb5); (have hXl := br.lt); (have hv7 := ((SpOwn.other (a := ⟨(X + 1), 0, none⟩) hv5 hXl (.int .i64 ((r : Nat) : Int))).other (a := ⟨(X + 1), 1, none⟩) hXl (.int .i64 ((c : Nat) : Int))).other (a := ⟨(X + 1), 2, none⟩) hXl (.slice (some ⟨R, 0, none⟩) (r) (r))); (have br6 := ((br5.set 0 (.int .i64 ((r : Nat) : Int))).set 1 (.int .i64 ((c : Nat) : Int))).set 2 (.slice (some ⟨R, 0, none⟩) (r) (r))); (have hin6 := ((hin5.setCell (p := ⟨(X + 1), 0, none⟩) (by simp) (.int .i64 ((r : Nat) : Int))).setCell (p := ⟨(X + 1), 1, none⟩) (by simp) (.int .i64 ((c : Nat) : Int))).setCell (p := ⟨(X + 1), 2, none⟩) (by simp) (.slice (some ⟨R, 0, none⟩) (r) (r))); (have f0 := br5.frozen 0); (have f1 := br5.frozen 1); (have f2 := br5.frozen 2); (have b0 := br5.c0); (have b1 := br5.c1); (have b2 := br5.c2); (have hl5 := br5.lt); (subst h5); (have H1 := Lib.hid hv7); (have H2 := Lib.hid br6); (have H3 := Lib.hid hin6); (clear hv7 br6 hin6 hv5 hb5 br br5 hin hin5); (go_wp2_with fail); (have h1 := H1.out); (have h2 := H2.out); (have h3 := H3.out); (clear H1 H2 H3 f0 f1 f2 b0 b1 b2 hl5); (generalize ((w5.setCell ⟨(X + 1), 0, none⟩ (.int .i64 ((r : Nat) : Int))).setCell ⟨(X + 1), 1, none⟩ (.int .i64 ((c : Nat) : Int))).setCell ⟨(X + 1), 2, none⟩ (.slice (some ⟨R, 0, none⟩) (r) (r)) = W6 at *); (have e0 : W6.cell? ⟨(X + 1), 0, none⟩ = some (.int .i64 ((r : Nat) : Int)) := h2.cell 0); (have e1 : W6.cell? ⟨(X + 1), 1, none⟩ = some (.int .i64 ((c : Nat) : Int)) := h2.cell 1); (have e2 : W6.cell? ⟨(X + 1), 2, none⟩ = some (.slice (some ⟨R, 0, none⟩) (r) (r)) := h2.cell 2); (have hfin := SpOwn.mono h1 (show w.heap.size ≤ (World.heap wr).size by rw [← HX.out]; omega)); (have hbelow : Below w.heap.size w W6 := h3.bel.mono (by have := HX.out; omega)); (refine bodyPost_ret (v := .tuple #[.agg #[(.int .i64 ((r : Nat) : Int)), (.int .i64 ((c : Nat) : Int)), (.slice (some ⟨R, 0, none⟩) (r) (r))], .int .i64 0]) ?_ rfl ⟨⟨_, rfl, hfin⟩, hbelow⟩); (simp [results, Tryz.results26, go_sem, e0, e1, e2]))
theorem dItm_at {r c : Nat} (qs : List Rat) {i k : Nat} (hi : i < r) (hk : k < c) : sumAt (dItm c qs (r * c)) i k = qs.getD (i * c + k) 0 := by
  have hc0 : 0 < c := by omega
  have h1 : (i * c + k) / c = i := by rw [Nat.mul_comm, Nat.mul_add_div hc0, Nat.div_eq_of_lt hk, Nat.add_zero]
  have h2 : (i * c + k) % c = k := by rw [Nat.mul_comm, Nat.mul_add_mod, Nat.mod_eq_of_lt hk]
  refine sumAt_once ?_ (List.mem_map.2 ⟨i * c + k, List.mem_range.2 ?_, ?_⟩)
  · unfold dItm
    rw [List.pairwise_map]
    have hn : (List.range (r * c)).Pairwise (· ≠ ·) := List.nodup_range
    refine hn.imp fun {a b} hab e => hab ?_
    have e1 : a / c = b / c := e.1
    have e2 : a % c = b % c := e.2
    rw [← Nat.div_add_mod a c, ← Nat.div_add_mod b c, e1, e2]
  · have := Nat.mul_le_mul_right c (show i + 1 ≤ r by omega)
    rw [Nat.add_mul, Nat.one_mul] at this
    omega
  · rw [h1, h2]
theorem checkM_ok {r c : Nat} (hr : r ≤ 2048) (hc : c ≤ 2048) : checkM r c (r * c : Nat) = 0 := by
  have h : sidesE r c = 0 := by unfold sidesE; rw [if_neg (by omega), if_neg (by omega)]
  unfold checkM
  rw [if_pos h, if_pos (by simp)]
/-- the values of a dense matrix -/
def mvals (c : Nat) (qs : List Rat) (i k : Nat) : Rat := qs.getD (i * c + k) 0
theorem ofd_any {j : Nat} (w : World) (v : Value) (r c : Nat) (qs : List Rat) (hM : MatAt w v r c qs) (hr : r ≤ 2048) (hc : c ≤ 2048) (hz : ∀ i, SzK j (qs.getD i 0)) (hcap : r * c * (j + 1) + 1 < 17592186044416) :
    Calls Tryz.prog 26 #[v] w fun e w' => (∃ s, e = .returned (.tuple #[s, .int .i64 0]) ∧ SpN w' w.heap.size s r c (mvals c qs)) ∧ Below w.heap.size w w' := by
  obtain ⟨x, rfl, hl, hv⟩ := hM
  obtain ⟨a, cap, rfl⟩ := hv.shape
  refine (ofd_ok w r c a qs.length cap qs hv hl rfl hr hc hz (by rw [hl]; exact hcap) ?_).mono ?_
  · rw [hl]; exact checkM_ok hr hc
  · rintro e w' ⟨⟨s, rfl, hs⟩, hb⟩
    refine ⟨⟨s, rfl, hs.congr fun i k hi hk => ?_⟩, hb⟩
    rw [foldA_at, hl, dItm_at qs hi hk, Rat.zero_add]; rfl
end Gus
end
section
/- Equality of rows of fractions and of dense matrices. -/
namespace Gus
open Go Go.RowKit Go.Proofs
set_option maxHeartbeats 2000000 in
theorem fracNeq_run (p q : Rat) (w : World) : (binOp .neq 56 (fracV p) (fracV q)).run Tryz.prog w = .ok (.bool (!decide (p = q))) w := by
  have h := frac_iff p q
  simp only [fracV]
  generalize lo p.num.natAbs = a1 at *
  generalize lo q.num.natAbs = b1 at *
  generalize bg p.num.natAbs = a2 at *
  generalize bg q.num.natAbs = b2 at *
  generalize decide (p.num < 0) = a3 at *
  generalize decide (q.num < 0) = b3 at *
  generalize lo (p.den - 1) = a4 at *
  generalize lo (q.den - 1) = b4 at *
  generalize bg (p.den - 1) = a5 at *
  generalize bg (q.den - 1) = b5 at *
  simp [go_sem]
  by_cases h1 : a1 = b1 <;> by_cases h2 : a2.toList = b2.toList <;> by_cases h3 : a3 = b3 <;> by_cases h4 : a4 = b4 <;> by_cases h5 : a5.toList = b5.toList <;> simp [h1, h2, h3, h4, h5] at h ⊢ <;> (try simp [h])
set_option maxRecDepth 100000 in
set_option maxHeartbeats 2000000 in
theorem equalR_any (w : World) (v1 v2 : Value) (es1 es2 : List Rat) (h1 : VecAt w v1 es1) (h2 : VecAt w v2 es2) (hl : es1.length ≤ 4096) :
    Calls Tryz.prog 84 #[v1, v2] w fun e w' => e = .returned (.bool (decide (es1 = es2))) ∧ Below w.heap.size w w' := by
  have H1 := Lib.hid h1
  have H2 := Lib.hid h2
  obtain ⟨a1, c1, rfl⟩ := h1.shape
  obtain ⟨a2, c2, rfl⟩ := h2.shape
  obtain ⟨L, hL⟩ : ∃ L, L = es1.length := ⟨_, rfl⟩
  obtain ⟨M, hM⟩ : ∃ M, M = es2.length := ⟨_, rfl⟩
  rw [← hL] at hl ⊢
  rw [← hM]
  by_cases hLM : L = M
  · have hne : ((L : Int) != M) = false := by simp [hLM]
    obtain ⟨r, hr⟩ : ∃ r, r = decide (es1 = es2) := ⟨_, rfl⟩
    rw [← hr]
    have HR : Hid (r = decide (es1.drop 0 = es2.drop 0)) := Lib.hid hr
    have HL := Lib.hid hL
    have HM := Lib.hid hM
    have HLM := Lib.hid hLM
    clear hL hM hLM hr
    go_enter Tryz.func84, Tryz.ntmps84
    go_wp2_with fail
    go_loopw [13] (fun v13 wr => ∃ j : Nat, j ≤ L ∧ v13 = .int .i64 j ∧ Below w.heap.size w wr ∧ Hid (r = decide (es1.drop j = es2.drop j))) (fun v13 _ => L - (RowKit.intOf v13).toNat)
    case atStart => exact ⟨0, Nat.zero_le _, rfl, Below.refl _ _, HR⟩
    case round =>
      clear HR
      obtain ⟨j, hj, rfl, hbel, HR⟩ := hrel
      by_cases hjL : j < L
      · have hd1 := drop_getD es1 0 (show j < es1.length by rw [← HL.out]; exact hjL)
        have hd2 := drop_getD es2 0 (show j < es2.length by rw [← HM.out, ← HLM.out]; exact hjL)
        obtain ⟨b1, o1, k1, A1, A2, A3, A4, A5, hv1, hb1, _, hf1, x0, x1, x2, x3, x4⟩ := (H1.out.call hbel).at (i := j) (by rw [← HL.out]; exact hjL)
        obtain ⟨b2, o2, k2, B1, B2, B3, B4, B5, hv2, hb2, _, hf2, y0, y1, y2, y3, y4⟩ := (H2.out.call hbel).at (i := j) (by rw [← HM.out, ← HLM.out]; exact hjL)
        simp only [Value.slice.injEq] at hv1 hv2
        obtain ⟨rfl, _, hk1⟩ := hv1
        obtain ⟨rfl, _, hk2⟩ := hv2
        subst hk1 hk2
        obtain ⟨e1, he1⟩ : ∃ e, e = es1.getD j 0 := ⟨_, rfl⟩
        obtain ⟨e2, he2⟩ : ∃ e, e = es2.getD j 0 := ⟨_, rfl⟩
        have hneq := fun W => fracNeq_run e1 e2 W
        have hr := HR.out
        rw [hd1, hd2, ← he1, ← he2] at hr
        rw [← he1] at hf1
        rw [← he2] at hf2
        rw [hf1, hf2] at hneq
        have hjI : (j : Int) < L := by omega
        have hjM : (j : Int) < M := by have := HLM.out; omega
        have hj0 : (0 : Int) ≤ j := by omega
        have hjw : IntKind.i64.wrap ((j : Int) + 1) = ((j + 1 : Nat) : Int) := IntWalk.i64_in _ (by omega)
        clear hd1 hd2 HR
        by_cases heq : e1 = e2
        · rw [show (!decide (e1 = e2)) = false by simp [heq]] at hneq
          have hr2 : r = decide (es1.drop (j + 1) = es2.drop (j + 1)) := by rw [hr, heq]; simp
          have HR2 := Lib.hid hr2
          clear hr2 hr heq he1 he2 hf1 hf2
          go_upto_region 6 with fail
          have h := In.self wr
          have hc := h.cell
          refine wp_region_flow 8 (by kernel_rfl) (by kernel_rfl) (fun _ _ d _ _ h => by cases d <;> exact h) ?_; simp only [List.take_succ_cons, List.take_zero, List.drop_succ_cons, List.drop_zero]; simp only [putAll, Act.put, List.setIfInBounds_toArray, List.set]; (try simp only [Nat.reduceAdd]); (try simp only [Nat.zero_add]); (repeat (first | ((with_reducible refine flow_float (v := ?_) ?_ ?_ ?_); rotate_left 1; (focus (with_reducible rfl)); (focus (intro u w1 hw hd w2; (try simp only [depH] at hd); (try simp only [ext] at hd); (try simp only [Nat.reduceAdd] at hd); (try simp only [Nat.reduceEqDiff] at hd); (try simp only [reduceIte] at hd); (try simp only [if_true] at hd); (try simp only [if_false] at hd); (try simp only [and_true] at hd); (try simp only [true_and] at hd); go_simp; exact rfl))) | ((with_reducible refine flow_pure0 (v := ?_) ?_ ?_ ?_ ?_); rotate_left 1; (focus (with_reducible rfl)); (focus rfl); (focus (intro u w1 hw hd; (try simp only [depH] at hd); (try simp only [ext] at hd); (try simp only [Nat.reduceAdd] at hd); (try simp only [Nat.reduceEqDiff] at hd); (try simp only [reduceIte] at hd); (try simp only [if_true] at hd); (try simp only [if_false] at hd); (try simp only [and_true] at hd); (try simp only [true_and] at hd); have hc' := hw.cell; go_simp; exact rfl))) | ((with_reducible refine flow_skipg (j := ?_) (b := ?_) ?_ ?_ ?_); rotate_left 2; (focus (with_reducible rfl)); (focus (intro u w1 hw hd; (try simp only [depH] at hd); (try simp only [ext] at hd); (try simp only [Nat.reduceAdd] at hd); (try simp only [Nat.reduceEqDiff] at hd); (try simp only [reduceIte] at hd); (try simp only [if_true] at hd); (try simp only [if_false] at hd); (try simp only [and_true] at hd); (try simp only [true_and] at hd); simp [yielded, hd]; done))) | ((with_reducible refine flow_pureg (v := ?_) (j := ?_) (b := ?_) ?_ ?_ ?_ ?_); rotate_left 3; (focus (with_reducible rfl)); (focus (intro u w1 hw hd; (try simp only [depH] at hd); (try simp only [ext] at hd); (try simp only [Nat.reduceAdd] at hd); (try simp only [Nat.reduceEqDiff] at hd); (try simp only [reduceIte] at hd); (try simp only [if_true] at hd); (try simp only [if_false] at hd); (try simp only [and_true] at hd); (try simp only [true_and] at hd); simp [yielded, hd]; done)); (focus (intro u w1 hw hd; (try simp only [depH] at hd); (try simp only [ext] at hd); (try simp only [Nat.reduceAdd] at hd); (try simp only [Nat.reduceEqDiff] at hd); (try simp only [reduceIte] at hd); (try simp only [if_true] at hd); (try simp only [if_false] at hd); (try simp only [and_true] at hd); (try simp only [true_and] at hd); have hc' := hw.cell; go_simp; exact rfl))) | ((with_reducible refine flow_alloc (t := ?_) (zs := ?_) ?_ ?_ ?_ ?_); rotate_left 2; (focus (with_reducible rfl)); (focus rfl); (focus (intro u w1; go_simp; exact rfl)))))
          (try clear hc hf h); intro u w' h ha hdi; replace h := h.ins; (try simp only [World.size_alloc] at h); (try dsimp only at ha); (repeat rw [World.size_alloc] at ha); (try simp only [allH] at ha); (try simp only [ext] at ha); (try simp only [Nat.reduceAdd] at ha); (try simp only [Nat.reduceEqDiff] at ha); (try simp only [reduceIte] at ha); (try simp only [if_true] at ha); (try simp only [if_false] at ha); (try simp only [and_true] at ha); (try simp only [true_and] at ha); have hc := h.cell; have hf := h.frozen
          (try obtain ha := ha); (try dsimp only);  simp only [ha]; clear ha hdi 
          have hbel2 := hbel.trans (h.bel.mono hbel.size)
          clear hc hf h
          go_wp2_with fail
          exact ⟨⟨j + 1, by omega, by go_num, hbel2, HR2⟩, by simp [RowKit.intOf]; omega⟩
        · rw [show (!decide (e1 = e2)) = true by simp [heq]] at hneq
          have hr2 : r = false := by rw [hr]; simp [heq]
          subst hr2
          clear hr heq he1 he2 hf1 hf2
          go_upto_region 6 with fail
          have h := In.self wr
          have hc := h.cell
          refine wp_region_flow 8 (by kernel_rfl) (by kernel_rfl) (fun _ _ d _ _ h => by cases d <;> exact h) ?_; simp only [List.take_succ_cons, List.take_zero, List.drop_succ_cons, List.drop_zero]; simp only [putAll, Act.put, List.setIfInBounds_toArray, List.set]; (try simp only [Nat.reduceAdd]); (try simp only [Nat.zero_add]); (repeat (first | ((with_reducible refine flow_float (v := ?_) ?_ ?_ ?_); rotate_left 1; (focus (with_reducible rfl)); (focus (intro u w1 hw hd w2; (try simp only [depH] at hd); (try simp only [ext] at hd); (try simp only [Nat.reduceAdd] at hd); (try simp only [Nat.reduceEqDiff] at hd); (try simp only [reduceIte] at hd); (try simp only [if_true] at hd); (try simp only [if_false] at hd); (try simp only [and_true] at hd); (try simp only [true_and] at hd); go_simp; exact rfl))) | ((with_reducible refine flow_pure0 (v := ?_) ?_ ?_ ?_ ?_); rotate_left 1; (focus (with_reducible rfl)); (focus rfl); (focus (intro u w1 hw hd; (try simp only [depH] at hd); (try simp only [ext] at hd); (try simp only [Nat.reduceAdd] at hd); (try simp only [Nat.reduceEqDiff] at hd); (try simp only [reduceIte] at hd); (try simp only [if_true] at hd); (try simp only [if_false] at hd); (try simp only [and_true] at hd); (try simp only [true_and] at hd); have hc' := hw.cell; go_simp; exact rfl))) | ((with_reducible refine flow_skipg (j := ?_) (b := ?_) ?_ ?_ ?_); rotate_left 2; (focus (with_reducible rfl)); (focus (intro u w1 hw hd; (try simp only [depH] at hd); (try simp only [ext] at hd); (try simp only [Nat.reduceAdd] at hd); (try simp only [Nat.reduceEqDiff] at hd); (try simp only [reduceIte] at hd); (try simp only [if_true] at hd); (try simp only [if_false] at hd); (try simp only [and_true] at hd); (try simp only [true_and] at hd); simp [yielded, hd]; done))) | ((with_reducible refine flow_pureg (v := ?_) (j := ?_) (b := ?_) ?_ ?_ ?_ ?_); rotate_left 3; (focus (with_reducible rfl)); (focus (intro u w1 hw hd; (try simp only [depH] at hd); (try simp only [ext] at hd); (try simp only [Nat.reduceAdd] at hd); (try simp only [Nat.reduceEqDiff] at hd); (try simp only [reduceIte] at hd); (try simp only [if_true] at hd); (try simp only [if_false] at hd); (try simp only [and_true] at hd); (try simp only [true_and] at hd); simp [yielded, hd]; done)); (focus (intro u w1 hw hd; (try simp only [depH] at hd); (try simp only [ext] at hd); (try simp only [Nat.reduceAdd] at hd); (try simp only [Nat.reduceEqDiff] at hd); (try simp only [reduceIte] at hd); (try simp only [if_true] at hd); (try simp only [if_false] at hd); (try simp only [and_true] at hd); (try simp only [true_and] at hd); have hc' := hw.cell; go_simp; exact rfl))) | ((with_reducible refine flow_alloc (t := ?_) (zs := ?_) ?_ ?_ ?_ ?_); rotate_left 2; (focus (with_reducible rfl)); (focus rfl); (focus (intro u w1; go_simp; exact rfl)))))
          (try clear hc hf h); intro u w' h ha hdi; replace h := h.ins; (try simp only [World.size_alloc] at h); (try dsimp only at ha); (repeat rw [World.size_alloc] at ha); (try simp only [allH] at ha); (try simp only [ext] at ha); (try simp only [Nat.reduceAdd] at ha); (try simp only [Nat.reduceEqDiff] at ha); (try simp only [reduceIte] at ha); (try simp only [if_true] at ha); (try simp only [if_false] at ha); (try simp only [and_true] at ha); (try simp only [true_and] at ha); have hc := h.cell; have hf := h.frozen
          (try obtain ha := ha); (try dsimp only);  simp only [ha]; clear ha hdi 
          have hbel2 := hbel.trans (h.bel.mono hbel.size)
          clear hc hf h
          go_wp2_with fail
          go_ret
          exact ⟨rfl, hbel2⟩
      · have hr := HR.out
        rw [List.drop_eq_nil_of_le (by rw [← HL.out]; omega), List.drop_eq_nil_of_le (by rw [← HM.out, ← HLM.out]; omega)] at hr
        have hr2 : r = true := by rw [hr]; rfl
        subst hr2
        have hjI : ¬ (j : Int) < L := by omega
        clear hr HR
        go_wp2_with fail
        go_ret
        exact ⟨rfl, hbel⟩
  · have hne : ((L : Int) != M) = true := by
      have : ¬ (L : Int) = M := by omega
      simpa using this
    rw [show decide (es1 = es2) = false from decide_eq_false fun e => hLM (by rw [hL, hM, e])]
    clear hL hM hLM
    go_enter Tryz.func84, Tryz.ntmps84
    go_wp2_with fail
    go_ret
    exact ⟨rfl, Below.refl _ _⟩
/-- whether two dense matrices are the same -/
def sameD (r c : Nat) (qs : List Rat) (r' c' : Nat) (qs' : List Rat) : Bool := decide (r = r') && (decide (c = c') && decide (qs = qs'))
set_option maxRecDepth 100000 in
set_option maxHeartbeats 2000000 in
theorem msame_any (w : World) (x y : Value) (r c r' c' : Nat) (qs qs' : List Rat) (h1 : MatAt w x r c qs) (h2 : MatAt w y r' c' qs') (hl : qs.length ≤ 4096) :
    Calls Tryz.prog 28 #[x, y] w fun e w' => e = .returned (.bool (sameD r c qs r' c' qs')) ∧ Below w.heap.size w w' := by
  obtain ⟨x, rfl, _, hx⟩ := h1
  obtain ⟨y, rfl, _, hy⟩ := h2
  have hE2 := fun W (hb : Below w.heap.size w W) => equalR_any W x y qs qs' (hx.call hb) (hy.call hb) hl
  obtain ⟨a1, k1, rfl⟩ := hx.shape
  obtain ⟨a2, k2, rfl⟩ := hy.shape
  obtain ⟨L, hL⟩ : ∃ L, L = qs.length := ⟨_, rfl⟩
  obtain ⟨M, hM⟩ : ∃ M, M = qs'.length := ⟨_, rfl⟩
  obtain ⟨t, hrr⟩ : ∃ t, t = decide (qs = qs') := ⟨_, rfl⟩
  unfold sameD
  rw [← hL, ← hM, ← hrr] at hE2
  rw [← hL, ← hM, ← hrr]
  clear hL hM hrr hl hx hy
  by_cases hn : r = r'
  · rw [decide_eq_true hn, Bool.true_and]
    have hb1 : ((r : Int) == (r' : Int)) = true := by rw [hn]; simp
    by_cases hm : c = c'
    · rw [decide_eq_true hm, Bool.true_and]
      have hb2 : ((c : Int) == (c' : Int)) = true := by rw [hm]; simp
      clear hn hm
      go_enter Tryz.func28, Tryz.ntmps28
      go_wp2_with fail
      ((with_reducible refine (hE2 _ ?_).mono ?_))
      · exact (((In.self w).alloc _).alloc _).bel
      rintro e w2 ⟨rfl, hb⟩
      have hin := (((In.self w).alloc _).alloc _).call hb
      clear hb hE2
      go_wp2_with fail
      go_ret
      exact ⟨rfl, hin.bel⟩
    · rw [decide_eq_false hm, Bool.false_and]
      have hb2 : ((c : Int) == (c' : Int)) = false := by
        have : ¬ (c : Int) = c' := by omega
        simpa using this
      clear hn hm hE2
      go_enter Tryz.func28, Tryz.ntmps28
      go_wp2_with fail
      go_ret
      exact ⟨rfl, (((In.self w).alloc _).alloc _).bel⟩
  · rw [decide_eq_false hn, Bool.false_and]
    have hb1 : ((r : Int) == (r' : Int)) = false := by
      have : ¬ (r : Int) = r' := by omega
      simpa using this
    clear hn hE2
    go_enter Tryz.func28, Tryz.ntmps28
    go_wp2_with fail
    go_ret
    exact ⟨rfl, (((In.self w).alloc _).alloc _).bel⟩
/-- the sparse forms agree just when the dense ones do -/
theorem rowOf_inj {f g : Nat → Rat} {M k : Nat} (h : rowOf f M = rowOf g M) (hk : k < M) : f k = g k := by
  by_cases hf : f k = 0
  · by_cases hg : g k = 0
    · rw [hf, hg]
    · have h1 : (k, g k) ∈ rowOf f M := by rw [h]; exact mem_rowOf.2 ⟨hk, hg, rfl⟩
      exact (mem_rowOf.1 h1).2.2.symm
  · have h1 : (k, f k) ∈ rowOf g M := by rw [← h]; exact mem_rowOf.2 ⟨hk, hf, rfl⟩
    exact (mem_rowOf.1 h1).2.2
theorem map_inj {α β : Type} {f : α → β} (hf : ∀ x y, f x = f y → x = y) : ∀ {l m : List α}, l.map f = m.map f → l = m
  | [], [], _ => rfl
  | [], _ :: _, h => by simp at h
  | _ :: _, [], h => by simp at h
  | x :: l, y :: m, h => by
    simp only [List.map_cons, List.cons.injEq] at h
    rw [hf x y h.1, map_inj hf h.2]
theorem cI_inj {x y : List Ent} (h : x.map cI = y.map cI) : x = y := by
  refine map_inj ?_ h
  rintro ⟨a, p⟩ ⟨b, q⟩ e
  simp only [cI, Prod.mk.injEq] at e
  exact Prod.ext (by omega) e.2
theorem gRows_inj {r c : Nat} {f g : Nat → Nat → Rat} (h : gRows r c f = gRows r c g) {i k : Nat} (hi : i < r) (hk : k < c) : f i k = g i k := by
  unfold gRows at h
  have h1 : mrows r c f = mrows r c g := map_inj (fun x y e => cI_inj e) h
  have h2 := congrArg (fun l => l.getD i []) h1
  simp only [mrows_getD c f hi, mrows_getD c g hi] at h2
  exact rowOf_inj h2 hk
theorem same_dense {r c r' c' : Nat} {qs qs' : List Rat} (h1 : qs.length = r * c) (h2 : qs'.length = r' * c') : sameM r c (mvals c qs) r' c' (mvals c' qs') = sameD r c qs r' c' qs' := by
  unfold sameM sameS sameD
  by_cases hr : r = r'
  · by_cases hc : c = c'
    · subst hr hc
      simp only [decide_true, Bool.true_and]
      rw [decide_eq_decide]
      constructor
      · intro h
        apply List.ext_getElem?
        intro t
        by_cases ht : t < r * c
        · have hc0 : 0 < c := by
            rcases Nat.eq_zero_or_pos c with e | e
            · rw [e, Nat.mul_zero] at ht; omega
            · exact e
          have := gRows_inj h (i := t / c) (k := t % c) (by rw [Nat.div_lt_iff_lt_mul hc0]; exact ht) (Nat.mod_lt _ hc0)
          unfold mvals at this
          rw [Nat.mul_comm, Nat.div_add_mod] at this
          rw [List.getD_eq_getElem?_getD, List.getD_eq_getElem?_getD, List.getElem?_eq_getElem (by omega), List.getElem?_eq_getElem (by omega)] at this
          rw [List.getElem?_eq_getElem (by omega), List.getElem?_eq_getElem (by omega)]
          exact congrArg some this
        · rw [List.getElem?_eq_none (by omega), List.getElem?_eq_none (by omega)]
      · rintro rfl; rfl
    · have : ¬ (c : Int) = c' := by omega
      simp [hc, this]
  · have : ¬ (r : Int) = r' := by omega
    simp [hr, this]
end Gus
end
section
/- The dense form's elements; the closure that stores an entry. -/
namespace Gus
open Go Go.RowKit Go.Proofs
/-- the elements of a dense form of which these entries are not yet stored -/
def den (r c : Nat) (f : Nat → Nat → Rat) (t : List (Nat × Nat × Rat)) : List Rat := (List.range (r * c)).map fun p => if t.any (fun x => x.1 * c + x.2.1 == p) then 0 else f (p / c) (p % c)
def dense (r c : Nat) (f : Nat → Nat → Rat) : List Rat := (List.range (r * c)).map fun p => f (p / c) (p % c)
theorem den_length (r c : Nat) (f : Nat → Nat → Rat) (t : List (Nat × Nat × Rat)) : (den r c f t).length = r * c := by simp [den]
theorem dense_length (r c : Nat) (f : Nat → Nat → Rat) : (dense r c f).length = r * c := by simp [dense]
theorem den_nil (r c : Nat) (f : Nat → Nat → Rat) : den r c f [] = dense r c f := by simp [den, dense]
theorem pos_of {c i k : Nat} (hk : k < c) : (i * c + k) / c = i ∧ (i * c + k) % c = k := by
  have hc0 : 0 < c := by omega
  exact ⟨by rw [Nat.mul_comm, Nat.mul_add_div hc0, Nat.div_eq_of_lt hk, Nat.add_zero], by rw [Nat.mul_comm, Nat.mul_add_mod, Nat.mod_eq_of_lt hk]⟩
theorem pos_lt {r c i k : Nat} (hi : i < r) (hk : k < c) : i * c + k < r * c := by
  have := Nat.mul_le_mul_right c (show i + 1 ≤ r by omega)
  rw [Nat.add_mul, Nat.one_mul] at this
  omega
theorem pos_split {r c p : Nat} (hp : p < r * c) : p / c < r ∧ p % c < c ∧ p / c * c + p % c = p := by
  have hc0 : 0 < c := by
    rcases Nat.eq_zero_or_pos c with e | e
    · rw [e, Nat.mul_zero] at hp; omega
    · exact e
  exact ⟨by rw [Nat.div_lt_iff_lt_mul hc0]; exact hp, Nat.mod_lt _ hc0, by rw [Nat.mul_comm]; exact Nat.div_add_mod p c⟩
theorem den_all (r c : Nat) (f : Nat → Nat → Rat) : den r c f (items r c f) = List.replicate (r * c) 0 := by
  apply List.ext_getElem
  · simp [den]
  · intro p h1 h2
    have hp : p < r * c := by simpa [den] using h1
    obtain ⟨a1, a2, a3⟩ := pos_split hp
    simp only [den, List.getElem_map, List.getElem_range, List.getElem_replicate]
    by_cases hz : f (p / c) (p % c) = 0
    · split
      · rfl
      · exact hz
    · rw [if_pos]
      exact List.any_eq_true.2 ⟨(p / c, p % c, f (p / c) (p % c)), mem_items.2 ⟨a1, a2, hz, rfl⟩, by simpa using a3⟩
theorem den_set {r c i k : Nat} {q : Rat} {f : Nat → Nat → Rat} {t pre : List (Nat × Nat × Rat)} (h : items r c f = pre ++ (i, k, q) :: t) : i < r ∧ k < c ∧ q = f i k ∧ (den r c f ((i, k, q) :: t)).set (i * c + k) q = den r c f t := by
  have hm : (i, k, q) ∈ items r c f := by rw [h]; exact List.mem_append.2 (.inr (.head _))
  obtain ⟨hi, hk, hz, hq⟩ := mem_items.1 hm
  refine ⟨hi, hk, hq, ?_⟩
  have ho := items_once r c f
  rw [h, List.pairwise_append, List.pairwise_cons] at ho
  have hnot := ho.2.1.1
  have ht : ∀ x ∈ t, x.1 < r ∧ x.2.1 < c := fun x hx => by
    have := mem_items.1 (show (x.1, x.2.1, x.2.2) ∈ items r c f by rw [h]; exact List.mem_append.2 (.inr (.tail _ hx)))
    exact ⟨this.1, this.2.1⟩
  apply List.ext_getElem
  · simp [den]
  · intro p h1 h2
    have hp : p < r * c := by simpa [den] using h2
    rw [List.getElem_set]
    simp only [den, List.getElem_map, List.getElem_range]
    by_cases he : i * c + k = p
    · rw [if_pos he, ← he, (pos_of (i := i) hk).1, (pos_of (i := i) hk).2, if_neg, hq]
      rw [List.any_eq_true]
      rintro ⟨x, hx, e⟩
      have e := of_decide_eq_true e
      have hxt := ht x hx
      have e1 := congrArg (· / c) e
      have e2 := congrArg (· % c) e
      simp only [(pos_of (i := i) hk).1, (pos_of (i := i) hk).2, (pos_of (i := x.1) hxt.2).1, (pos_of (i := x.1) hxt.2).2] at e1 e2
      exact hnot x hx ⟨e1.symm, e2.symm⟩
    · rw [if_neg he, List.any_cons]
      rw [show ((i * c + k == p) = false) by simpa using he, Bool.false_or]
theorem dense_getD {r c i k : Nat} (f : Nat → Nat → Rat) (hi : i < r) (hk : k < c) : (dense r c f).getD (i * c + k) 0 = f i k := by
  have hp := pos_lt hi hk
  rw [List.getD_eq_getElem?_getD, List.getElem?_eq_getElem (by rw [dense_length]; exact hp)]
  simp [dense, (pos_of (i := i) hk).1, (pos_of (i := i) hk).2]
theorem dense_mvals {r c : Nat} {qs : List Rat} (h : qs.length = r * c) : dense r c (mvals c qs) = qs := by
  apply List.ext_getElem
  · rw [dense_length, h]
  · intro p h1 h2
    have hp : p < r * c := by rw [← h]; exact h2
    obtain ⟨a1, a2, a3⟩ := pos_split hp
    simp only [dense, List.getElem_map, List.getElem_range, mvals, a3]
    rw [List.getD_eq_getElem?_getD, List.getElem?_eq_getElem h2]; rfl
theorem fcs_inj {q : Rat} {A1 A4 : Int} {A2 A5 : ByteArray} {A3 : Bool} (h : fcs q = [.int .u64 A1, .string A2, .bool A3, .int .u64 A4, .string A5]) : (lo q.num.natAbs : Int) = A1 ∧ bg q.num.natAbs = A2 ∧ decide (q.num < 0) = A3 ∧ (lo (q.den - 1) : Int) = A4 ∧ bg (q.den - 1) = A5 := by
  simpa [fcs] using h
theorem VBx.setA {w : World} {g : Nat} {qs : List Rat} (h : VBx w g qs) (i : Nat) (q : Rat) (hi : i < qs.length) {A1 A4 : Int} {A2 A5 : ByteArray} {A3 : Bool} (hq : fcs q = [.int .u64 A1, .string A2, .bool A3, .int .u64 A4, .string A5]) :
    VBx (((((w.setCell ⟨g, i * 5, none⟩ (.int .u64 A1)).setCell ⟨g, i * 5 + 1, none⟩ (.string A2)).setCell ⟨g, i * 5 + 2, none⟩ (.bool A3)).setCell ⟨g, i * 5 + 3, none⟩ (.int .u64 A4)).setCell ⟨g, i * 5 + 4, none⟩ (.string A5)) g (qs.set i q) := by
  obtain ⟨rfl, rfl, rfl, rfl, rfl⟩ := fcs_inj hq
  exact VBx.set h i q hi
theorem gr_putA (w : World) (g i : Nat) (v0 v1 v2 v3 v4 : Value) :
    w.grownBy (((((w.setCell ⟨g, i * 5, none⟩ v0).setCell ⟨g, i * 5 + 1, none⟩ v1).setCell ⟨g, i * 5 + 2, none⟩ v2).setCell ⟨g, i * 5 + 3, none⟩ v3).setCell ⟨g, i * 5 + 4, none⟩ v4) (some g) :=
  ((((gr_cell w ⟨g, i * 5, none⟩ _).trans (gr_cell _ ⟨g, i * 5 + 1, none⟩ _)).trans (gr_cell _ ⟨g, i * 5 + 2, none⟩ _)).trans (gr_cell _ ⟨g, i * 5 + 3, none⟩ _)).trans (gr_cell _ ⟨g, i * 5 + 4, none⟩ _)
set_option maxRecDepth 100000 in
set_option maxHeartbeats 2000000 in
theorem dns1_any (W : World) (g bm bs r c n i k cap : Nat) (a : Option Addr) (q : Rat) (qs : List Rat) (hm : Bx W bm 78 [.int .i64 r, .int .i64 c, .slice (some ⟨g, 0, none⟩) n n]) (hs : Bx W bs 63 [.int .i64 r, .int .i64 c, .slice a r cap]) (hg : VBx W g qs) (hn : qs.length = n) (hi : i * c + k < n) (hn4 : n ≤ 4194304) :
    Calls Tryz.prog 83 #[.int .i64 i, .int .i64 k, fracV q, .pointer (some ⟨bm, 0, none⟩), .pointer (some ⟨bs, 0, none⟩)] W fun e w' => e = .returned (.tuple #[]) ∧ VBx w' g (qs.set (i * c + k) q) ∧ W.grownBy w' (some g) := by
  obtain ⟨A1, A2, A3, A4, A5, hA, hA2⟩ : ∃ A1 A2 A3 A4 A5, fracV q = .agg #[.int .u64 A1, .string A2, .bool A3, .int .u64 A4, .string A5] ∧ fcs q = [.int .u64 A1, .string A2, .bool A3, .int .u64 A4, .string A5] := ⟨_, _, _, _, _, rfl, rfl⟩
  obtain ⟨t, ht⟩ : ∃ t, t = i * c + k := ⟨_, rfl⟩
  obtain ⟨d, hd⟩ : ∃ d, d = i * c := ⟨_, rfl⟩
  have hw1 : IntKind.i64.wrap ((i : Int) * c) = (d : Int) := by rw [hd, ← Int.natCast_mul]; exact IntWalk.i64_in _ (by omega)
  have hw2 : IntKind.i64.wrap ((d : Int) + k) = (t : Int) := by rw [ht, hd, ← Int.natCast_add]; exact IntWalk.i64_in _ (by omega)
  rw [← ht] at hi ⊢
  have htn : (t : Int) < n := by omega
  have ht0 : (0 : Int) ≤ t := by omega
  obtain ⟨o, ho⟩ : ∃ o : Obj, o = .cells #[.int .u64 A1, .string A2, .bool A3, .int .u64 A4, .string A5] 56 := ⟨_, rfl⟩
  have H3 := Lib.hid (Bx.alloc (hg.setA t q (by omega) hA2) o)
  have H4 := Lib.hid ((gr_putA W g t (.int .u64 A1) (.string A2) (.bool A3) (.int .u64 A4) (.string A5)).trans (World.grownBy_alloc _ o (some g)))
  rw [ho] at H3 H4
  obtain ⟨B1, B2, B3, B4, B5, _, c0, c1, c2, c3, c4, g0, g1, g2, g3, g4⟩ := VBx.cells hg (i := t) (by omega)
  have m0 := hm.c0
  have m1 := hm.c1
  have m2 := hm.c2
  have s0 := hs.c0
  have s1 := hs.c1
  have s2 := hs.c2
  have hml := hm.lt
  have hsl := hs.lt
  have hgl := hg.lt
  rw [hA]
  clear hm hs hg ht hd hA hA2 ho hn
  go_enter Tryz.func83, Tryz.ntmps83
  go_wp2_with fail
  go_end0
  exact ⟨rfl, H3.out, H4.out⟩
end Gus
end
section
/- sparses.Dense. -/
namespace Gus
open Go Go.RowKit Go.Proofs
theorem info_frac6 (L : Nat) (hL : L ≤ 4194304) (w : World) : (Instr.makeSlice 76 (.int .i64 (L : Int)) (.int .i64 (L : Int))).run Tryz.prog w =
    .ok (.slice (some ⟨w.heap.size, 0, none⟩) L L) (w.alloc (.cells (fcl (List.replicate L 0)).toArray 56)) := by
  obtain ⟨i0, hi, hz0, hz1, hz2⟩ := info_parts info_frac5
  have := run_make (P := Tryz.prog) w 76 56 i0 _ Tryz.underlying76 hi hz0 .i64 .i64 L L (by omega) (Int.le_refl _) (by rw [hz2]; omega) (by omega)
  rw [this]
  simp only [Int.toNat_natCast, hz1]
  rw [made_frac]
/-- the value of a new dense matrix of zeros -/
def NewD (X r c n : Nat) (fc : List Value) (x : Value) (w : World) : Prop := ∃ g, x = .agg #[.int .i64 r, .int .i64 c, .slice (some ⟨g, 0, none⟩) n n] ∧ X ≤ g ∧ Bx w g 56 fc
theorem stable_newD (X r c n : Nat) (fc : List Value) : Stable (NewD X r c n fc) := fun _ _ _ ⟨R, h1, h2, h3⟩ hs => ⟨R, h1, h2, h3.call hs⟩
set_option maxRecDepth 100000 in
set_option maxHeartbeats 4000000 in
theorem dense_ok (w : World) (v : Value) (r c : Nat) (f : Nat → Nat → Rat) (hS : SpM w v r c f) (hr : r ≤ 2048) (hc : c ≤ 2048) :
    Calls Tryz.prog 27 #[v] w fun e w' => (∃ d, e = .returned (.tuple #[d, .int .i64 0]) ∧ MatAt w' d r c (dense r c f)) ∧ Below w.heap.size w w' := by
  have hck := fun W (hb : Below w.heap.size w W) => scheck_ok (hS.call hb) hr hc
  obtain ⟨a, cap, rfl⟩ := hS.shape
  obtain ⟨X, hX⟩ : ∃ X, X = w.heap.size := ⟨_, rfl⟩
  have HX := Lib.hid hX
  have HS := Lib.hid hS
  obtain ⟨n, hn⟩ : ∃ n, n = r * c := ⟨_, rfl⟩
  have hn4 : n ≤ 4194304 := by rw [hn]; exact Nat.mul_le_mul hr hc
  have HN := Lib.hid hn
  have HMK := Lib.hid (info_frac6 n hn4)
  have hwm : IntKind.i64.wrap ((r : Int) * c) = (n : Int) := by rw [hn, ← Int.natCast_mul]; exact IntWalk.i64_in _ (by rw [← hn]; omega)
  obtain ⟨fc, hfc⟩ : ∃ fc, fc = fcl (List.replicate n 0) := ⟨_, rfl⟩
  have HF := Lib.hid hfc
  rw [← hfc] at HMK
  clear hS hn hfc
  go_enter Tryz.func27, Tryz.ntmps27
  go_wp2_with fail
  ((with_reducible refine (hck _ ?_).mono ?_))
  · exact (((In.self w).alloc _).alloc _).bel
  rintro e w2 ⟨rfl, hb⟩
  have hin := (((In.self w).alloc (.cells #[.int .i64 r, .int .i64 c, .slice a r cap] 63)).alloc (.cells #[.int .i64 0, .int .i64 0, .slice none 0 0] 78)).call hb
  have bx := ((Bx.new_at w #[.int .i64 r, .int .i64 c, .slice a r cap] 63 hX).alloc (.cells #[.int .i64 0, .int .i64 0, .slice none 0 0] 78)).call hb
  have bq := (Bx.new_at (w.alloc (.cells #[.int .i64 r, .int .i64 c, .slice a r cap] 63)) #[.int .i64 0, .int .i64 0, .slice none 0 0] 78 (n := X + 1) (by rw [World.size_alloc, hX])).call hb
  rw [← hX] at hin ⊢
  clear hX hck hb
  have x0 := bx.c0
  have x1 := bx.c1
  have x2 := bx.c2
  have hxl := bx.lt
  go_upto_region 4 with fail
  have h := In.self w2
  have hc' := h.cell
  refine wp_region_flow 12 (by kernel_rfl) (by kernel_rfl) (fun _ _ d _ _ h => by cases d <;> exact h) ?_; simp only [List.take_succ_cons, List.take_zero, List.drop_succ_cons, List.drop_zero]; simp only [putAll, Act.put, List.setIfInBounds_toArray, List.set]; (try simp only [Nat.reduceAdd]); (try simp only [Nat.zero_add]); (repeat (first | ((with_reducible refine flow_float (v := ?_) ?_ ?_ ?_); rotate_left 1; (focus (with_reducible rfl)); (focus (intro u w1 hw hd w2; (try simp only [depH] at hd); (try simp only [ext] at hd); (try simp only [Nat.reduceAdd] at hd); (try simp only [Nat.reduceEqDiff] at hd); (try simp only [reduceIte] at hd); (try simp only [if_true] at hd); (try simp only [if_false] at hd); (try simp only [and_true] at hd); (try simp only [true_and] at hd); go_simp; exact rfl))) | ((with_reducible refine flow_pure0 (v := ?_) ?_ ?_ ?_ ?_); rotate_left 1; (focus (with_reducible rfl)); (focus rfl); (focus (intro u w1 hw hd; (try simp only [depH] at hd); (try simp only [ext] at hd); (try simp only [Nat.reduceAdd] at hd); (try simp only [Nat.reduceEqDiff] at hd); (try simp only [reduceIte] at hd); (try simp only [if_true] at hd); (try simp only [if_false] at hd); (try simp only [and_true] at hd); (try simp only [true_and] at hd); have hc' := hw.cell; go_simp; exact rfl))) | ((with_reducible refine flow_skipg (j := ?_) (b := ?_) ?_ ?_ ?_); rotate_left 2; (focus (with_reducible rfl)); (focus (intro u w1 hw hd; (try simp only [depH] at hd); (try simp only [ext] at hd); (try simp only [Nat.reduceAdd] at hd); (try simp only [Nat.reduceEqDiff] at hd); (try simp only [reduceIte] at hd); (try simp only [if_true] at hd); (try simp only [if_false] at hd); (try simp only [and_true] at hd); (try simp only [true_and] at hd); simp [yielded, hd]; done))) | ((with_reducible refine flow_pureg (v := ?_) (j := ?_) (b := ?_) ?_ ?_ ?_ ?_); rotate_left 3; (focus (with_reducible rfl)); (focus (intro u w1 hw hd; (try simp only [depH] at hd); (try simp only [ext] at hd); (try simp only [Nat.reduceAdd] at hd); (try simp only [Nat.reduceEqDiff] at hd); (try simp only [reduceIte] at hd); (try simp only [if_true] at hd); (try simp only [if_false] at hd); (try simp only [and_true] at hd); (try simp only [true_and] at hd); simp [yielded, hd]; done)); (focus (intro u w1 hw hd; (try simp only [depH] at hd); (try simp only [ext] at hd); (try simp only [Nat.reduceAdd] at hd); (try simp only [Nat.reduceEqDiff] at hd); (try simp only [reduceIte] at hd); (try simp only [if_true] at hd); (try simp only [if_false] at hd); (try simp only [and_true] at hd); (try simp only [true_and] at hd); have hc' := hw.cell; go_simp; exact rfl))) | ((with_reducible refine flow_alloc (t := ?_) (zs := ?_) ?_ ?_ ?_ ?_); rotate_left 2; (focus (with_reducible rfl)); (focus rfl); (focus (intro u w1; go_simp; exact rfl)))))
  (with_reducible refine flow_slice (t := 56) (zs := fc.toArray) (n := n) ?_ ?_ ?_ ?_); (focus (with_reducible rfl)); (focus rfl); (focus (intro u w1 hw hd; (try simp only [depH] at hd); (try simp only [ext] at hd); (try simp only [Nat.reduceAdd] at hd); (try simp only [Nat.reduceEqDiff] at hd); (try simp only [reduceIte] at hd); (try simp only [if_true] at hd); (try simp only [if_false] at hd); (try simp only [and_true] at hd); (try simp only [true_and] at hd); go_simp; rw [HMK.out]; simp [Result.andThen]))
  (with_reducible refine flow_rel (Vi := NewD w2.heap.size r c n fc) false ?_ ?_ ?_ ?_ ?_ ?_)
  case refine_1 => rfl
  case refine_2 => rfl
  case refine_3 => exact stable_newD _ _ _ _ _
  case refine_4 => exact placed_false _
  case refine_5 =>
    intro u w1 hw hd
    (try simp only [depH] at hd); (try simp only [ext] at hd); (try simp only [Nat.reduceAdd] at hd); (try simp only [Nat.reduceEqDiff] at hd); (try simp only [reduceIte] at hd); (try simp only [if_true] at hd); (try simp only [if_false] at hd); (try simp only [and_true] at hd); (try simp only [true_and] at hd)
    obtain ⟨e1, e2, R, e3, e4, e5⟩ := hd
    go_simp
    exact ⟨⟨⟨R, rfl, e4, e5⟩, fun h => by cases h⟩, St.refl _⟩
  (repeat (first | ((with_reducible refine flow_float (v := ?_) ?_ ?_ ?_); rotate_left 1; (focus (with_reducible rfl)); (focus (intro u w1 hw hd w2; (try simp only [depH] at hd); (try simp only [ext] at hd); (try simp only [Nat.reduceAdd] at hd); (try simp only [Nat.reduceEqDiff] at hd); (try simp only [reduceIte] at hd); (try simp only [if_true] at hd); (try simp only [if_false] at hd); (try simp only [and_true] at hd); (try simp only [true_and] at hd); go_simp; exact rfl))) | ((with_reducible refine flow_pure0 (v := ?_) ?_ ?_ ?_ ?_); rotate_left 1; (focus (with_reducible rfl)); (focus rfl); (focus (intro u w1 hw hd; (try simp only [depH] at hd); (try simp only [ext] at hd); (try simp only [Nat.reduceAdd] at hd); (try simp only [Nat.reduceEqDiff] at hd); (try simp only [reduceIte] at hd); (try simp only [if_true] at hd); (try simp only [if_false] at hd); (try simp only [and_true] at hd); (try simp only [true_and] at hd); have hc' := hw.cell; go_simp; exact rfl))) | ((with_reducible refine flow_skipg (j := ?_) (b := ?_) ?_ ?_ ?_); rotate_left 2; (focus (with_reducible rfl)); (focus (intro u w1 hw hd; (try simp only [depH] at hd); (try simp only [ext] at hd); (try simp only [Nat.reduceAdd] at hd); (try simp only [Nat.reduceEqDiff] at hd); (try simp only [reduceIte] at hd); (try simp only [if_true] at hd); (try simp only [if_false] at hd); (try simp only [and_true] at hd); (try simp only [true_and] at hd); simp [yielded, hd]; done))) | ((with_reducible refine flow_pureg (v := ?_) (j := ?_) (b := ?_) ?_ ?_ ?_ ?_); rotate_left 3; (focus (with_reducible rfl)); (focus (intro u w1 hw hd; (try simp only [depH] at hd); (try simp only [ext] at hd); (try simp only [Nat.reduceAdd] at hd); (try simp only [Nat.reduceEqDiff] at hd); (try simp only [reduceIte] at hd); (try simp only [if_true] at hd); (try simp only [if_false] at hd); (try simp only [and_true] at hd); (try simp only [true_and] at hd); simp [yielded, hd]; done)); (focus (intro u w1 hw hd; (try simp only [depH] at hd); (try simp only [ext] at hd); (try simp only [Nat.reduceAdd] at hd); (try simp only [Nat.reduceEqDiff] at hd); (try simp only [reduceIte] at hd); (try simp only [if_true] at hd); (try simp only [if_false] at hd); (try simp only [and_true] at hd); (try simp only [true_and] at hd); have hc' := hw.cell; go_simp; exact rfl))) | ((with_reducible refine flow_alloc (t := ?_) (zs := ?_) ?_ ?_ ?_ ?_); rotate_left 2; (focus (with_reducible rfl)); (focus rfl); (focus (intro u w1; go_simp; exact rfl)))))
  have hcc := hc
  (try clear hc hf h); intro u w' h ha hdi; replace h := h.ins; (try simp only [World.size_alloc] at h); (try dsimp only at ha); (repeat rw [World.size_alloc] at ha); (try simp only [allH] at ha); (try simp only [ext] at ha); (try simp only [Nat.reduceAdd] at ha); (try simp only [Nat.reduceEqDiff] at ha); (try simp only [reduceIte] at ha); (try simp only [if_true] at ha); (try simp only [if_false] at ha); (try simp only [and_true] at ha); (try simp only [true_and] at ha); have hc := h.cell; have hf := h.frozen
  obtain ⟨⟨⟨ha, R2, hu12, _, _⟩, g, hu13, hXg, bg⟩, S, hu14, hSX, bS⟩ := ha
  have hSg : S ≠ g := fun e => by
    subst e
    have e1 := bg
    have e2 := bS
    unfold Bx at e1 e2
    rw [e1] at e2
    simp at e2
  (try obtain ha := ha); (try dsimp only);  simp only [ha, hu12, hu13, hu14]; clear ha hdi hu12 hu13 hu14
  have hXS : X + 1 < S := by have := bq.lt; omega
  have hXG : X + 1 < g := by have := bq.lt; omega
  have bx1 := bx.call h.bel
  have bq1 := bq.call h.bel
  have hin1 := hin.call h.bel
  have f0 := bS.frozen 0
  have f1 := bS.frozen 1
  have f2 := bS.frozen 2
  have s0 := bS.c0
  have s1 := bS.c1
  have s2 := bS.c2
  have hsl := bS.lt
  have bS2 := ((bS.set 0 (.int .i64 r)).set 1 (.int .i64 c)).set 2 (.slice (some ⟨g, 0, none⟩) n n)
  have bg2 := ((bg.other (a := ⟨S, 0, none⟩) hSg (.int .i64 r)).other (a := ⟨S, 1, none⟩) hSg (.int .i64 c)).other (a := ⟨S, 2, none⟩) hSg (.slice (some ⟨g, 0, none⟩) n n)
  have bx2 := ((bx1.other (a := ⟨S, 0, none⟩) (by simp; omega) (.int .i64 r)).other (a := ⟨S, 1, none⟩) (by simp; omega) (.int .i64 c)).other (a := ⟨S, 2, none⟩) (by simp; omega) (.slice (some ⟨g, 0, none⟩) n n)
  have bq2 := ((bq1.other (a := ⟨S, 0, none⟩) (by simp; omega) (.int .i64 r)).other (a := ⟨S, 1, none⟩) (by simp; omega) (.int .i64 c)).other (a := ⟨S, 2, none⟩) (by simp; omega) (.slice (some ⟨g, 0, none⟩) n n)
  have hin2 := ((hin1.setCell (p := ⟨S, 0, none⟩) (by simp; omega) (.int .i64 r)).setCell (p := ⟨S, 1, none⟩) (by simp; omega) (.int .i64 c)).setCell (p := ⟨S, 2, none⟩) (by simp; omega) (.slice (some ⟨g, 0, none⟩) n n)
  have he := each_any (fun t W => Bx W S 78 [.int .i64 r, .int .i64 c, .slice (some ⟨g, 0, none⟩) n n] ∧ Bx W X 63 [.int .i64 r, .int .i64 c, .slice a r cap] ∧ Bx W (X + 1) 78 [.int .i64 0, .int .i64 0, .slice none 0 0] ∧ VBx W g (den r c f t) ∧ In w.heap.size w W ∧ ∃ pre, items r c f = pre ++ t)
    w _ (.agg #[.int .i64 r, .int .i64 c, .slice a r cap]) r c (mrows r c f) 83 #[.pointer (some ⟨S, 0, none⟩), .pointer (some ⟨X, 0, none⟩)] (enters_of Tryz.func83 (by kernel_rfl) rfl) HS.out (fun t W h => h.2.2.2.2.1) (fun t W W' h hb => ⟨h.1.call hb, h.2.1.call hb, h.2.2.1.call hb, h.2.2.2.1.call hb, h.2.2.2.2.1.call hb, h.2.2.2.2.2⟩)
    (fun i k x t W ⟨h1, h2, h3, h4, h5, pre, h6⟩ => by
      obtain ⟨hi, hk, hq, hset⟩ := den_set h6
      refine (dns1_any W g S X r c n i k cap a x _ h1 h2 h4 (by rw [den_length, HN.out]) (by rw [HN.out]; exact pos_lt hi hk) hn4).mono ?_
      rintro e w' ⟨rfl, k1, k2⟩
      rw [hset] at k1
      exact ⟨rfl, h1.grown k2 (by simp; omega), h2.grown k2 (by simp; omega), h3.grown k2 (by simp; omega), k1, h5.grown k2 (by rw [← HX.out]; omega), pre ++ [(i, k, x)], by rw [h6]; simp⟩)
    (by rw [mrows_length]; omega) (fun i => Nat.le_trans (mrows_row r c f i) (by omega))
    ⟨bS2, bx2, bq2, by rw [show itemsF 0 (mrows r c f) = items r c f from rfl, den_all, ← HN.out]; rw [HF.out] at bg2; exact bg2, by rw [← HX.out]; exact hin2, [], rfl⟩
  have x0 := bx1.c0
  have x1 := bx1.c1
  have x2 := bx1.c2
  have hxl := bx1.lt
  clear bS bg bS2 bg2 bx2 bq2 hin2 bx1 bq1 hin1 bx bq hin hc hf h
  go_wp2_with fail
  ((with_reducible refine he.mono ?_))
  rintro e w4 ⟨rfl, h1, h2, h3, h4, h5, _⟩
  rw [den_nil] at h4
  have hsl4 := h1.lt
  have hql4 := h3.lt
  have s0 := h1.c0
  have s1 := h1.c1
  have s2 := h1.c2
  have q0 := h3.c0
  have q1 := h3.c1
  have q2 := h3.c2
  have q3 := h3.frozen 0
  have q4 := h3.frozen 1
  have q5 := h3.frozen 2
  have G1 := Lib.hid (((h3.set 0 (.int .i64 r)).set 1 (.int .i64 c)).set 2 (.slice (some ⟨g, 0, none⟩) n n))
  have hne : ¬ X + 1 = g := by omega
  have G2 := Lib.hid (((Bx.other (a := ⟨X + 1, 0, none⟩) h4 hne (.int .i64 r)).other (a := ⟨X + 1, 1, none⟩) hne (.int .i64 c)).other (a := ⟨X + 1, 2, none⟩) hne (.slice (some ⟨g, 0, none⟩) n n))
  have G3 := Lib.hid (((h5.setCell (p := ⟨X + 1, 0, none⟩) (by rw [← HX.out]; simp) (.int .i64 r)).setCell (p := ⟨X + 1, 1, none⟩) (by rw [← HX.out]; simp) (.int .i64 c)).setCell (p := ⟨X + 1, 2, none⟩) (by rw [← HX.out]; simp) (.slice (some ⟨g, 0, none⟩) n n))
  clear he x0 x1 x2 h1 h2 h3 h4 h5
  go_wp2_with fail
  have g1 := G1.out
  have g2 := G2.out
  have g3 := G3.out
  clear G1 G2 G3 q0 q1 q2 q3 q4 q5 s0 s1 s2
  generalize ((w4.setCell ⟨X + 1, 0, none⟩ (.int .i64 r)).setCell ⟨X + 1, 1, none⟩ (.int .i64 c)).setCell ⟨X + 1, 2, none⟩ (.slice (some ⟨g, 0, none⟩) n n) = W5 at *
  have e0 : W5.cell? ⟨X + 1, 0, none⟩ = some (.int .i64 r) := g1.cell 0
  have e1 : W5.cell? ⟨X + 1, 1, none⟩ = some (.int .i64 c) := g1.cell 1
  have e2 : W5.cell? ⟨X + 1, 2, none⟩ = some (.slice (some ⟨g, 0, none⟩) n n) := g1.cell 2
  have hv : VecAt W5 (.slice (some ⟨g, 0, none⟩) n n) (dense r c f) := VBx.at g2 n (by rw [dense_length]; exact HN.out) n
  refine bodyPost_ret (v := .tuple #[.agg #[.int .i64 r, .int .i64 c, .slice (some ⟨g, 0, none⟩) n n], .int .i64 0]) ?_ rfl ⟨⟨_, rfl, _, rfl, dense_length r c f, hv⟩, g3.bel⟩
  simp [results, Tryz.results27, go_sem, e0, e1, e2]
end Gus
end
section
/- gussetlaw16.of; sizes of the laws' fractions. -/
namespace Gus
open Go Go.RowKit Go.Proofs
theorem SzK_int {n : Int} {k : Nat} (h : n.natAbs < 2 ^ k) (hk : 0 < k) : SzK k (n : Rat) := by
  constructor
  · simpa using h
  · have : 2 ^ 1 ≤ 2 ^ k := Nat.pow_le_pow_right (by decide) hk
    simp; omega
theorem qOf_szk {n d : Int} (hn0 : -9223372036854775808 ≤ n) (hn1 : n < 9223372036854775808) (hd0 : 0 ≤ d) (hd1 : d < 4294967296) : SzK 128 (qOf n d) := by
  unfold qOf
  exact (SzK_int (k := 64) (by omega) (by decide)).div (SzK_int (k := 64) (by omega) (by decide))
theorem mList_szk {qs : List (Int × Int)} (h : QOk qs) (k i : Nat) : SzK 128 ((mList qs k).getD i 0) := by
  by_cases hi : i < k
  · rw [List.getD_eq_getElem?_getD, List.getElem?_eq_getElem (by rw [mList_length]; exact hi)]
    simp only [mList, List.getElem_map, List.getElem_range, Option.getD_some, mEl]
    by_cases hq : i < qs.length
    · have hg : qs.getD i (0, 0) ∈ qs := by
        rw [List.getD_eq_getElem?_getD, List.getElem?_eq_getElem hq]; exact List.getElem_mem hq
      obtain ⟨a, b, c, d⟩ := h _ hg
      exact qOf_szk a b c d
    · have : qs.getD i (0, 0) = (0, 0) := by rw [List.getD_eq_getElem?_getD, List.getElem?_eq_none (by omega)]; rfl
      rw [this]
      exact qOf_szk (by decide) (by decide) (by decide) (by decide)
  · rw [List.getD_eq_getElem?_getD, List.getElem?_eq_none (by rw [mList_length]; omega)]
    exact SzK.zero.mono (by decide)
set_option maxRecDepth 100000 in
set_option maxHeartbeats 2000000 in
theorem lof_any {j : Nat} (w : World) (v : Value) (r c : Nat) (qs : List Rat) (hM : MatAt w v r c qs) (hr : r ≤ 2048) (hc : c ≤ 2048) (hz : ∀ i, SzK j (qs.getD i 0)) (hcap : r * c * (j + 1) + 1 < 17592186044416) :
    Calls Tryz.prog 29 #[v] w fun e w' => (∃ s, e = .returned s ∧ SpN w' w.heap.size s r c (mvals c qs)) ∧ Below w.heap.size w w' := by
  have h1 := fun W (hb : Below w.heap.size w W) => ofd_any W v r c qs (hM.call hb) hr hc hz hcap
  obtain ⟨a, cap, rfl⟩ := hM.shape
  obtain ⟨L, hL⟩ : ∃ L, L = qs.length := ⟨_, rfl⟩
  rw [← hL] at h1 ⊢
  obtain ⟨X, hX⟩ : ∃ X, X = w.heap.size := ⟨_, rfl⟩
  have HX := Lib.hid hX
  clear hM hL hz hcap
  go_enter Tryz.func29, Tryz.ntmps29
  go_wp2_with fail
  ((with_reducible refine (h1 _ ?_).mono ?_))
  · exact (((In.self w).alloc _).alloc _).bel
  rintro e w2 ⟨⟨s, rfl, hs⟩, hb⟩
  have hin := (((In.self w).alloc (.cells #[.int .i64 r, .int .i64 c, .slice a L cap] 78)).alloc (.cells #[.int .i64 0, .int .i64 0, .slice none 0 0] 63)).call hb
  have by1 := (Bx.new_at (w.alloc (.cells #[.int .i64 r, .int .i64 c, .slice a L cap] 78)) #[.int .i64 0, .int .i64 0, .slice none 0 0] 63 (n := X + 1) (by rw [World.size_alloc, hX])).call hb
  rw [World.size_alloc, World.size_alloc, ← hX] at hs
  rw [← hX] at hin ⊢
  clear hX hb h1
  obtain ⟨R, rfl⟩ : ∃ R, s = .agg #[.int .i64 r, .int .i64 c, .slice (some ⟨R, 0, none⟩) r r] := by obtain ⟨R, _, h, _⟩ := hs; exact ⟨R, h⟩
  obtain ⟨Z, hZ⟩ : ∃ Z, Z = w2.heap.size := ⟨_, rfl⟩
  have hYZ : X + 1 < Z := by have := by1.lt; omega
  have y0 := by1.c0
  have y1 := by1.c1
  have y2 := by1.c2
  have z0 := by1.frozen 0
  have z1 := by1.frozen 1
  have z2 := by1.frozen 2
  have hyl := by1.lt
  have hs7 := ((SpOwn.other (a := ⟨X + 1, 0, none⟩) hs (Nat.lt_succ_self _) (.int .i64 r)).other (a := ⟨X + 1, 1, none⟩) (Nat.lt_succ_self _) (.int .i64 c)).other (a := ⟨X + 1, 2, none⟩) (Nat.lt_succ_self _) (.slice (some ⟨R, 0, none⟩) r r)
  have by7 := ((by1.set 0 (.int .i64 r)).set 1 (.int .i64 c)).set 2 (.slice (some ⟨R, 0, none⟩) r r)
  have hin7 := ((hin.setCell (p := ⟨X + 1, 0, none⟩) (by simp) (.int .i64 r)).setCell (p := ⟨X + 1, 1, none⟩) (by simp) (.int .i64 c)).setCell (p := ⟨X + 1, 2, none⟩) (by simp) (.slice (some ⟨R, 0, none⟩) r r)
  have G1 := Lib.hid (SpOwn.call hs7 ((Below.refl _ _).alloc (Nat.le_refl _) (.cells #[.int .i64 r, .int .i64 c, .slice (some ⟨R, 0, none⟩) r r] 63)))
  have G2 := Lib.hid (by7.alloc (.cells #[.int .i64 r, .int .i64 c, .slice (some ⟨R, 0, none⟩) r r] 63))
  have G3 := Lib.hid (hin7.alloc (.cells #[.int .i64 r, .int .i64 c, .slice (some ⟨R, 0, none⟩) r r] 63))
  clear hs7 by7 hin7 hs by1 hin
  go_wp2_with fail
  have g1 := G1.out
  have g2 := G2.out
  have g3 := G3.out
  clear G1 G2 G3 y0 y1 y2 z0 z1 z2 hyl
  generalize (((w2.setCell ⟨X + 1, 0, none⟩ (.int .i64 r)).setCell ⟨X + 1, 1, none⟩ (.int .i64 c)).setCell ⟨X + 1, 2, none⟩ (.slice (some ⟨R, 0, none⟩) r r)).alloc (.cells #[.int .i64 r, .int .i64 c, .slice (some ⟨R, 0, none⟩) r r] 63) = W5 at *
  have e0 : W5.cell? ⟨X + 1, 0, none⟩ = some (.int .i64 r) := g2.cell 0
  have e1 : W5.cell? ⟨X + 1, 1, none⟩ = some (.int .i64 c) := g2.cell 1
  have e2 : W5.cell? ⟨X + 1, 2, none⟩ = some (.slice (some ⟨R, 0, none⟩) r r) := g2.cell 2
  have hfin : SpN W5 w.heap.size (.agg #[.int .i64 r, .int .i64 c, .slice (some ⟨R, 0, none⟩) r r]) r c (mvals c qs) := SpOwn.mono g1 (by rw [← HX.out]; omega)
  have hbel : Below w.heap.size w W5 := by rw [← HX.out]; exact g3.bel
  refine bodyPost_ret (v := .agg #[.int .i64 r, .int .i64 c, .slice (some ⟨R, 0, none⟩) r r]) ?_ rfl ⟨⟨_, rfl, hfin⟩, hbel⟩
  simp [results, Tryz.results29, go_sem, e0, e1, e2]
end Gus
end
section
/- gussetlaw16.SparsesSame. -/
namespace Gus
open Go Go.RowKit Go.Proofs
section
variable {P : Program} {ops : Array Oper} {w0 : World} {A : (Nat → Value) → Act} {T : Act → World → Prop} {i : Nat} {o : Oper} {os : List Oper} {V : Nat → Value → World → Prop} {Φ : Nat → Bool}
/-- a guarded operation that runs, of whose value a relation is known -/
theorem flow_relg {Vi : Value → World → Prop} {j : Nat} {b : Bool} (hg : o.guard = some (j, b)) (hy : ∀ u w, St w0 w → depH V u w o.after.toList → yielded ops (A u).tmps j = some b) (hs : Stable Vi) (h : ∀ u w, St w0 w → depH V u w o.after.toList → okUpon P (Fresh false Vi w) w ((execOp (A u).eval o).run P w))
    (k : flow P ops w0 A T (i + 1) os (ext V i Vi) (extB Φ i false)) : flow P ops w0 A T i (o :: os) V Φ :=
  ⟨_, false, hs, placed_false _, fun u w hw hd => by
    unfold okOp
    rw [if_pos (by unfold Region.wanted; rw [hg]; simp [hy u w hw hd])]
    exact h u w hw hd, fun h0 => absurd h0 (by unfold fl; rw [hg]; simp), k⟩
end
theorem QAt.call {w w' : World} {a : Option Addr} {qs : List (Int × Int)} (h : QAt w a qs) (hb : Below w.heap.size w w') : QAt w' a qs := fun i hi => by
  obtain ⟨b, off, h1, h2, h3, h4⟩ := h i hi
  exact ⟨b, off, h1, Nat.lt_of_lt_of_le h2 hb.size, by rw [hb.cell (p := ⟨b, _, none⟩) h2]; exact h3, by rw [hb.cell (p := ⟨b, _, none⟩) h2]; exact h4⟩
theorem stable_mat (r c : Nat) (qs : List Rat) : Stable (fun x w => MatAt w x r c qs) := fun _ _ _ h hs => h.call hs
/-- a row of fractions, with room behind them -/
def VRow (w : World) (g : Nat) (qs : List Rat) : Prop := ∃ rest, Bx w g 56 (fcl qs ++ rest)
theorem VRow.call {w w' : World} {g : Nat} {qs : List Rat} (h : VRow w g qs) (hb : Below w.heap.size w w') : VRow w' g qs := let ⟨r, h⟩ := h; ⟨r, h.call hb⟩
theorem VRow.own {w : World} {base n : Nat} {v : Value} {qs : List Rat} (h : w.ownsRow base 56 5 v n (fcl qs)) (hn : 0 < n) : ∃ g cap, v = .slice (some ⟨g, 0, none⟩) n cap ∧ base ≤ g ∧ VRow w g qs := by
  rcases h.2 with ⟨_, h0⟩ | ⟨g, cap, cur, rfl, hb, hg, _, _, _, ht⟩
  · omega
  · refine ⟨g, cap, rfl, hb, cur.toList.drop (n * 5), ?_⟩
    unfold Bx
    rw [← ht, List.take_append_drop, hg]
theorem VRow.other {w : World} {g : Nat} {qs : List Rat} {a : Addr} (h : VRow w g qs) (hne : a.block ≠ g) (u : Value) : VRow (w.setCell a u) g qs := let ⟨r, h⟩ := h; ⟨r, h.other hne u⟩
theorem fcl_at_app (qs : List Rat) (rest : List Value) {i j : Nat} (hi : i < qs.length) (hj : j < 5) : (fcl qs ++ rest)[i * 5 + j]? = (fcs (qs.getD i 0))[j]? := by
  rw [List.getElem?_append_left (by rw [fcl_length]; omega), fcl_at qs i j hi hj]
theorem VRow.at {w : World} {g : Nat} {qs : List Rat} (h : VRow w g qs) (n : Nat) (hn : n = qs.length) (cap : Nat) : VecAt w (.slice (some ⟨g, 0, none⟩) n cap) qs := by
  subst hn
  obtain ⟨rest, h⟩ := h
  exact ⟨_, _, rfl, fun i hi => ⟨g, 0, rfl, h.lt, fun j hj => by rw [h.cell, Nat.zero_add, fcl_at_app qs rest hi hj]⟩⟩
theorem VRow.cells {w : World} {g : Nat} {qs : List Rat} (h : VRow w g qs) {i : Nat} (hi : i < qs.length) : ∃ A1 A2 A3 A4 A5, fracV (qs.getD i 0) = .agg #[.int .u64 A1, .string A2, .bool A3, .int .u64 A4, .string A5] ∧
    w.cell? ⟨g, i * 5, none⟩ = some (.int .u64 A1) ∧ w.cell? ⟨g, i * 5 + 1, none⟩ = some (.string A2) ∧ w.cell? ⟨g, i * 5 + 2, none⟩ = some (.bool A3) ∧ w.cell? ⟨g, i * 5 + 3, none⟩ = some (.int .u64 A4) ∧ w.cell? ⟨g, i * 5 + 4, none⟩ = some (.string A5) ∧
    w.frozen? ⟨g, i * 5, none⟩ = false ∧ w.frozen? ⟨g, i * 5 + 1, none⟩ = false ∧ w.frozen? ⟨g, i * 5 + 2, none⟩ = false ∧ w.frozen? ⟨g, i * 5 + 3, none⟩ = false ∧ w.frozen? ⟨g, i * 5 + 4, none⟩ = false := by
  obtain ⟨rest, h⟩ := h
  have hc := fun j hj => (h.cell (i * 5 + j)).trans (fcl_at_app qs rest hi hj)
  exact ⟨_, _, _, _, _, rfl, hc 0 (by decide), hc 1 (by decide), hc 2 (by decide), hc 3 (by decide), hc 4 (by decide), h.frozen _, h.frozen _, h.frozen _, h.frozen _, h.frozen _⟩
theorem VRow.setA {w : World} {g : Nat} {qs : List Rat} (h : VRow w g qs) (i : Nat) (q : Rat) (hi : i < qs.length) {A1 A4 : Int} {A2 A5 : ByteArray} {A3 : Bool} (hq : fcs q = [.int .u64 A1, .string A2, .bool A3, .int .u64 A4, .string A5]) :
    VRow (((((w.setCell ⟨g, i * 5, none⟩ (.int .u64 A1)).setCell ⟨g, i * 5 + 1, none⟩ (.string A2)).setCell ⟨g, i * 5 + 2, none⟩ (.bool A3)).setCell ⟨g, i * 5 + 3, none⟩ (.int .u64 A4)).setCell ⟨g, i * 5 + 4, none⟩ (.string A5)) g (qs.set i q) := by
  obtain ⟨rfl, rfl, rfl, rfl, rfl⟩ := fcs_inj hq
  obtain ⟨rest, h⟩ := h
  refine ⟨rest, ?_⟩
  have h5 := ((((Bx.set h (i * 5) (.int .u64 (lo q.num.natAbs))).set (i * 5 + 1) (.string (bg q.num.natAbs))).set (i * 5 + 2) (.bool (decide (q.num < 0)))).set (i * 5 + 3) (.int .u64 (lo (q.den - 1)))).set (i * 5 + 4) (.string (bg (q.den - 1)))
  have hl := fcl_length qs
  rw [List.set_append_left _ _ (by omega), List.set_append_left _ _ (by rw [List.length_set]; omega), List.set_append_left _ _ (by simp only [List.length_set]; omega), List.set_append_left _ _ (by simp only [List.length_set]; omega), List.set_append_left _ _ (by simp only [List.length_set]; omega), fcl_set qs i q hi] at h5
  exact h5
/-- a store into a dense matrix's own variable leaves the elements of every matrix -/
theorem VecAt.apart {w : World} {v x : Value} {qs : List Rat} {S n k : Nat} {p q : Int} {ao : Option Addr} (h : VecAt w v qs) (hS : Bx w S 78 [.int .i64 p, .int .i64 q, .slice ao n k]) (j : Nat) : VecAt (w.setCell ⟨S, j, none⟩ x) v qs := by
  obtain ⟨a, cap, h1, h2⟩ := h
  refine ⟨a, cap, h1, fun i hi => ?_⟩
  obtain ⟨b, off, h3, h4, h5⟩ := h2 i hi
  have hne : b ≠ S := fun e => by
    subst e
    have h6 := h5 0 (by decide)
    rw [hS.cell] at h6
    have h7 : (fcs (qs.getD i 0))[0]? = some (.int .u64 (lo (qs.getD i 0).num.natAbs)) := rfl
    rw [h7] at h6
    generalize off + i * 5 + 0 = t at h6
    match t, h6 with
    | 0, h6 => simp at h6
    | 1, h6 => simp at h6
    | 2, h6 => simp at h6
    | t + 3, h6 => simp at h6
  exact ⟨b, off, h3, by rw [World.size_setCell]; exact h4, fun j' hj => by rw [World.cell?_setCell_other _ _ _ _ (by intro e; injection e with e1 e2; exact hne e1.symm)]; exact h5 j' hj⟩
theorem MatAt.put3 {w : World} {v : Value} {r c n k n' k' : Nat} {p q p' q' : Int} {ao ao' : Option Addr} {qs : List Rat} {S : Nat} (h : MatAt w v r c qs) (hS : Bx w S 78 [.int .i64 p, .int .i64 q, .slice ao n k]) :
    MatAt (((w.setCell ⟨S, 0, none⟩ (.int .i64 p')).setCell ⟨S, 1, none⟩ (.int .i64 q')).setCell ⟨S, 2, none⟩ (.slice ao' n' k')) v r c qs := by
  obtain ⟨x, h1, h2, h3⟩ := h
  have s1 := hS.set 0 (.int .i64 p')
  have s2 := s1.set 1 (.int .i64 q')
  exact ⟨x, h1, h2, ((h3.apart hS 0).apart s1 1).apart s2 2⟩
theorem VecAt.all {w : World} {n k : Nat} {a : Addr} {qs : List Rat} (h : VecAt w (.slice (some a) n k) qs) (j : Nat) (u : Value) (hj : (fcl qs)[j]? = some u) : w.cell? (a.add j) = some u := by
  obtain ⟨a', cap, h1, h2⟩ := h
  injection h1 with e1
  subst e1
  have hlt : j < qs.length * 5 := by
    have := (List.getElem?_eq_some_iff.1 hj).1
    rw [fcl_length] at this; exact this
  obtain ⟨b, off, h3, _, h5⟩ := h2 (j / 5) (by omega)
  injection h3 with h3
  subst h3
  have h6 := h5 (j % 5) (by omega)
  rw [← fcl_at qs (j / 5) (j % 5) (by omega) (by omega), show j / 5 * 5 + j % 5 = j by omega, hj, show off + j / 5 * 5 + j % 5 = off + j by omega] at h6
  rw [Addr.add_lit]
  exact h6
theorem fcl_one {qs : List Rat} : ∀ u ∈ fcl qs, u.oneCell' = true := fun u hu => by
  obtain ⟨q, _, h⟩ := List.mem_flatMap.1 hu
  simp only [fcs, List.mem_cons, List.not_mem_nil, or_false] at h
  rcases h with rfl | rfl | rfl | rfl | rfl <;> rfl
theorem MatAt.other {w : World} {ab ao L k r c g : Nat} {p q : Value} {qs : List Rat} (h : MatAt w (.agg #[p, q, .slice (some ⟨ab, ao, none⟩) L k]) r c qs) (hne : g ≠ ab) (j : Nat) (u : Value) : MatAt (w.setCell ⟨g, j, none⟩ u) (.agg #[p, q, .slice (some ⟨ab, ao, none⟩) L k]) r c qs := by
  obtain ⟨x, h1, h2, h3⟩ := h
  have h5 := h1
  simp only [Value.agg.injEq] at h1
  have h4 := congrArg Array.toList h1
  simp only [List.cons.injEq, and_true] at h4
  obtain ⟨a, cap, e1, e2⟩ := h3
  refine ⟨x, h5, h2, a, cap, e1, fun i hi => ?_⟩
  obtain ⟨b, off, e3, e4, e5⟩ := e2 i hi
  rw [← h4.2.2] at e1
  simp only [Value.slice.injEq] at e1
  obtain ⟨e1, _⟩ := e1
  rw [e3] at e1
  simp only [Option.some.injEq, Addr.mk.injEq, and_true] at e1
  exact ⟨b, off, e3, by rw [World.size_setCell]; exact e4, fun j' hj => by rw [World.cell?_setCell_other _ _ _ _ (by intro e; injection e with e6 e7; exact hne (e6.trans e1.1.symm))]; exact e5 j' hj⟩
theorem getD_set_szk {xs : List Rat} {j i : Nat} {q : Rat} {m : Nat} (h : ∀ i, SzK m (xs.getD i 0)) (hq : SzK m q) : SzK m ((xs.set j q).getD i 0) := by
  rw [List.getD_eq_getElem?_getD, List.getElem?_set]
  split
  · split
    · exact hq
    · have := h xs.length
      rw [List.getD_eq_getElem?_getD, List.getElem?_eq_none (Nat.le_refl _)] at this
      exact this
  · have := h i
    rw [List.getD_eq_getElem?_getD] at this
    exact this
/-- the value of a new dense matrix -/
def NewR (N r c n : Nat) (qs : List Rat) (x : Value) (w : World) : Prop := ∃ g cap, x = .agg #[.int .i64 r, .int .i64 c, .slice (some ⟨g, 0, none⟩) n cap] ∧ N ≤ g ∧ VRow w g qs
theorem stable_newR (N r c n : Nat) (qs : List Rat) : Stable (NewR N r c n qs) := fun _ _ _ ⟨g, k, h1, h2, h3⟩ hs => ⟨g, k, h1, h2, h3.call hs⟩
def NewV (N n : Nat) (qs : List Rat) (x : Value) (w : World) : Prop := ∃ g cap, x = .slice (some ⟨g, 0, none⟩) n cap ∧ N ≤ g ∧ VRow w g qs
theorem stable_newV (N n : Nat) (qs : List Rat) : Stable (NewV N n qs) := fun _ _ _ ⟨g, k, h1, h2, h3⟩ hs => ⟨g, k, h1, h2, h3.call hs⟩
theorem stable_spm (r c : Nat) (f : Nat → Nat → Rat) : Stable (fun x w => SpM w x r c f) := fun _ _ _ h hs => h.call hs
set_option maxRecDepth 100000 in
set_option maxHeartbeats 4000000 in
theorem same_large (w : World) (R0 C0 R1 C1 : Nat) (a b : Option Addr) (ca cb la lb at0 : Nat) (cp : Bool) (vn vd : Int) (hla : la < 9223372036854775808) (hlb : lb < 9223372036854775808) (hs : ¬ (la ≤ 40 ∧ lb ≤ 40)) :
    Calls Tryz.prog 4 #[.agg #[.int .u8 R0, .int .u8 C0, .slice a la ca], .agg #[.int .u8 R1, .int .u8 C1, .slice b lb cb], .bool cp, .int .u8 at0, .agg #[.int .i64 vn, .int .u32 vd]] w fun e w' => e = .returned (.bool true) ∧ Below w.heap.size w w' := by
  have c0 := fun W b1 T h => small_two W b1 T R0 C0 R1 C1 a b la lb ca cb hla hlb h
  rw [show (decide (la ≤ 40) && decide (lb ≤ 40)) = false by simp; omega] at c0
  have c1 := works_any
  obtain ⟨X, hX⟩ : ∃ X, X = w.heap.size := ⟨_, rfl⟩
  have HX := Lib.hid hX
  clear hs hla hlb hX
  go_enter Tryz.func4, Tryz.ntmps4
  go_wp2_with fail
  ((with_reducible refine (c0 _ _ 74 ?_).mono ?_))
  · exact Bx.new_at _ _ _ (by simp)
  rintro e w1 ⟨rfl, hb⟩
  have hin := (((((In.self w).alloc _).alloc _).alloc _).alloc _).call hb
  clear hb c0
  go_wp2_with fail
  ((with_reducible refine (c1 _).mono ?_))
  rintro e w2 ⟨rfl, hb⟩
  replace hin := hin.call hb
  clear hb c1
  go_wp2_with fail
  go_ret
  exact ⟨rfl, hin.bel⟩
theorem MatAt.len {w : World} {p q : Value} {a : Option Addr} {L k r c : Nat} {qs : List Rat} (h : MatAt w (.agg #[p, q, .slice a L k]) r c qs) : L = r * c := by
  obtain ⟨x, h1, h2, h3⟩ := h
  obtain ⟨a', k', rfl⟩ := h3.shape
  simp only [Value.agg.injEq] at h1
  have h4 := congrArg Array.toList h1
  simp only [List.cons.injEq, Value.slice.injEq, and_true] at h4
  omega
end Gus
end
