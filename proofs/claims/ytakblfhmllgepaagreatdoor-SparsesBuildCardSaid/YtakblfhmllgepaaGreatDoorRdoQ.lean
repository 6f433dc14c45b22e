/- Proved here: parts of the proof: Rdo Rdp. Conditions: those that each theorem states. -/
import Derived.Test.YtakblfhmllgepaaGreatDoorRdjQ
section
/- The reference's integers: Add (printed by gen_rdo.py). -/
namespace Gus
open Go Go.RowKit Go.Proofs
set_option maxRecDepth 100000 in
set_option maxHeartbeats 1000000 in
theorem zadd_a (w : World) (v1 v2 : Value) (x y : Int) (h1 : ZV w v1 x) (h2 : ZV w v2 y) (hs1 : (D.wd x.natAbs).length ≤ 1099511627776) (hs2 : (D.wd y.natAbs).length ≤ 1099511627776) (hs3 : (D.wd (x + y).natAbs).length ≤ 4611686018427387904) (hb : decide (x < 0) = decide (y < 0)) :
    Calls Tryz.prog 54 #[v1, v2] w fun e w' => RInt w (x + y) e w' := by
  obtain ⟨u1, rfl, hu1⟩ := h1
  obtain ⟨u2, rfl, hu2⟩ := h2
  obtain ⟨a1, k1, rfl, hr1⟩ := id hu1
  obtain ⟨a2, k2, rfl, hr2⟩ := id hu2
  clear hr1 hr2
  have c1 := fun W (h : In w.heap.size w W) => (radd_any W _ _ _ _ (hu1.call h.bel) (hu2.call h.bel) hs1 hs2).mono fun _ _ => RNat.rel
  rw [show x.natAbs + y.natAbs = (x + y).natAbs by (by_cases hx : x < 0 <;> by_cases hy : y < 0 <;> simp only [hx, hy, decide_true, decide_false] at hb <;> (first | omega | (simp at hb)))] at c1
  have c2 := fun W u (h : NV W u (x + y).natAbs) => zfrom_any W (decide (x < 0)) u (x + y).natAbs h hs3
  have hz : (if (decide (x < 0)) = true then -((x + y).natAbs : Int) else (x + y).natAbs) = x + y := by
    by_cases hx : x < 0 <;> by_cases hy : y < 0 <;> simp only [hx, hy, decide_true, decide_false, if_true, Bool.false_eq_true, if_false] at hb ⊢ <;> (first | omega | (simp at hb))
  rw [hz] at c2
  clear hz hs1 hs2 hs3 hu1 hu2
  unfold RInt
  obtain ⟨base, hbase⟩ : ∃ b, b = w.heap.size := ⟨_, rfl⟩
  rw [← hbase] at c1 ⊢
  have HB := Lib.hid hbase
  clear hbase
  obtain ⟨z, hz⟩ : ∃ z, z = x + y := ⟨_, rfl⟩
  rw [← hz] at c1 c2 ⊢
  clear hz
  generalize decide (x < 0) = b1 at *
  generalize decide (y < 0) = b2 at *
  generalize (D.wd x.natAbs).length = l1 at *
  generalize (D.wd y.natAbs).length = l2 at *
  subst hb
  go_enter Tryz.func54, Tryz.ntmps54
  go_upto_region 1 with fail
  ((obtain ⟨X, hXX⟩ : ∃ z, z = w.heap.size := ⟨_, rfl⟩); (have bV0 := (((Bx.new_at w #[.bool b1, .slice a1 l1 k1] 43 (n := X) (by simp [hXX])).alloc (.cells #[.bool b1, .slice a2 l2 k2] 43)).alloc (.cells #[.bool false, .slice none 0 0] 43))); (have bV1 := ((Bx.new_at (w.alloc (.cells #[.bool b1, .slice a1 l1 k1] 43)) #[.bool b1, .slice a2 l2 k2] 43 (n := X + 1) (by simp [hXX])).alloc (.cells #[.bool false, .slice none 0 0] 43))); (have bV2 := (Bx.new_at ((w.alloc (.cells #[.bool b1, .slice a1 l1 k1] 43)).alloc (.cells #[.bool b1, .slice a2 l2 k2] 43)) #[.bool false, .slice none 0 0] 43 (n := X + 1 + 1) (by simp [hXX]))); (have hV := ((((In.self w).alloc (.cells #[.bool b1, .slice a1 l1 k1] 43)).alloc (.cells #[.bool b1, .slice a2 l2 k2] 43)).alloc (.cells #[.bool false, .slice none 0 0] 43))); (rw [← hXX] at hV ⊢); (have HX := Lib.hid hXX); (clear hXX); (generalize ((w.alloc (.cells #[.bool b1, .slice a1 l1 k1] 43)).alloc (.cells #[.bool b1, .slice a2 l2 k2] 43)).alloc (.cells #[.bool false, .slice none 0 0] 43) = V at *))
  have hin : In base w V := by rw [HB.out, ← HX.out]; exact hV
  have hZb : base ≤ X + 1 + 1 := by rw [HB.out, ← HX.out]; omega
  clear hV HX
  skip
  ((have p0 := bV0.c0); (have p1 := bV0.c1); (have pl := bV0.lt))
  ((have q0 := bV1.c0); (have q1 := bV1.c1); (have ql := bV1.lt))
  go_upto_region 2 with fail
  have h := In.self V; have hc := h.cell; have hf := h.frozen; refine wp_region_flow 8 (by kernel_rfl) (by kernel_rfl) (fun _ _ d _ _ h => by cases d <;> exact h) ?_; simp only [List.take_succ_cons, List.take_zero, List.drop_succ_cons, List.drop_zero]; simp only [putAll, Act.put, List.setIfInBounds_toArray, List.set]; (try simp only [Nat.reduceAdd]); (try simp only [Nat.zero_add]); (repeat (first | ((with_reducible refine flow_float (v := ?_) ?_ ?_ ?_); rotate_left 1; (focus (with_reducible rfl)); (focus (intro u w1 hw hd w2; (try simp only [depH] at hd); (try simp only [ext] at hd); (try simp only [extU] at hd); (try simp only [Nat.reduceAdd] at hd); (try simp only [Nat.reduceEqDiff] at hd); (try simp only [reduceIte] at hd); (try simp only [and_true] at hd); (try simp only [true_and] at hd); go_simp; exact rfl))) | ((first | ((with_reducible refine flow_pure0 (v := ?_) ?_ ?_ ?_ ?_); rotate_left 1; (focus (with_reducible rfl)); (focus rfl)) | ((with_reducible refine flow_pureg (v := ?_) (j := ?_) (b := ?_) ?_ ?_ ?_ ?_); rotate_left 3; (focus (with_reducible rfl)); (focus (intro u w1 hw hd; (try simp only [depH] at hd); (try simp only [ext] at hd); (try simp only [extU] at hd); (try simp only [Nat.reduceAdd] at hd); (try simp only [Nat.reduceEqDiff] at hd); (try simp only [reduceIte] at hd); (try simp only [and_true] at hd); (try simp only [true_and] at hd); simp [yielded, hd]; done)))); (focus (intro u w1 hw hd; (try simp only [depH] at hd); (try simp only [ext] at hd); (try simp only [extU] at hd); (try simp only [Nat.reduceAdd] at hd); (try simp only [Nat.reduceEqDiff] at hd); (try simp only [reduceIte] at hd); (try simp only [and_true] at hd); (try simp only [true_and] at hd); have hc' := hw.cell; go_simp; exact rfl))) | ((with_reducible refine flow_skipg (j := ?_) (b := ?_) ?_ ?_ ?_); rotate_left 2; (focus (with_reducible rfl)); (focus (intro u w1 hw hd; (try simp only [depH] at hd); (try simp only [ext] at hd); (try simp only [extU] at hd); (try simp only [Nat.reduceAdd] at hd); (try simp only [Nat.reduceEqDiff] at hd); (try simp only [reduceIte] at hd); (try simp only [and_true] at hd); (try simp only [true_and] at hd); simp [yielded, hd]; done))) | ((with_reducible refine flow_alloc (t := ?_) (zs := ?_) ?_ ?_ ?_ ?_); rotate_left 2; (focus (with_reducible rfl)); (focus rfl); (focus (intro u w1; go_simp; exact rfl)))))
  (with_reducible refine flow_rel (Vi := NVr z.natAbs) false ?_ ?_ ?_ ?_ ?_ ?_); (focus rfl); (focus rfl); (focus exact stable_nv _); (focus exact placed_false _); (focus (intro u w1 hw hd; (try simp only [depH] at hd); (try simp only [ext] at hd); (try simp only [extU] at hd); (try simp only [Nat.reduceAdd] at hd); (try simp only [Nat.reduceEqDiff] at hd); (try simp only [reduceIte] at hd); (try simp only [and_true] at hd); (try simp only [true_and] at hd); have hc' := hw.cell; go_simp; (try simp only [okUpon]); go_at_call 89; ((with_reducible refine (c1 _ (hin.call hw.ins.bel)).mono ?_)); rintro e w'' ⟨⟨v, rfl, hv⟩, hb⟩; exact ⟨v, rfl, ⟨hv, fun h => by cases h⟩, hb⟩))
  (with_reducible refine flow_rel (Vi := ZVr z) false ?_ ?_ ?_ ?_ ?_ ?_); (focus rfl); (focus rfl); (focus exact stable_zv _); (focus exact placed_false _); (focus (intro u w1 hw hd; (try simp only [depH] at hd); (try simp only [ext] at hd); (try simp only [extU] at hd); (try simp only [Nat.reduceAdd] at hd); (try simp only [Nat.reduceEqDiff] at hd); (try simp only [reduceIte] at hd); (try simp only [and_true] at hd); (try simp only [true_and] at hd); obtain ⟨hd1, hd2, _⟩ := hd; have hc' := hw.cell; go_simp; (try simp only [okUpon]); go_at_call 86; ((with_reducible refine (c2 _ _ hd2.v).mono ?_)); rintro e w'' ⟨⟨v, rfl, hv⟩, hb⟩; exact ⟨v, rfl, ⟨hv, fun h => by cases h⟩, hb⟩))
  (try clear hc hf h); intro u w' h ha hdi; replace h := h.ins; (try simp only [World.size_alloc] at h); (try dsimp only at ha); (repeat rw [World.size_alloc] at ha); (try simp only [allH] at ha); (try simp only [ext] at ha); (try simp only [extU] at ha); (try simp only [Nat.reduceAdd] at ha); (try simp only [Nat.reduceEqDiff] at ha); (try simp only [reduceIte] at ha); (try simp only [and_true] at ha); (try simp only [true_and] at ha); have hc := h.cell; have hf := h.frozen; have hb := h.bel; clear hdi hc hf; clear p0 p1 pl q0 q1 ql c1 c2; replace hin := hin.call hb; replace bV0 := bV0.call hb; replace bV1 := bV1.call hb; replace bV2 := bV2.call hb; clear hb h; rename World => W1
  generalize X + 1 + 1 = Z at *
  have bZ := bV2
  obtain ⟨⟨ha, h9⟩, hz⟩ := ha
  replace hz : ZV _ (u 7) z := hz
  simp only [ha]
  clear ha h9 bV2 bV0 bV1
  (try dsimp only)
  generalize u 7 = v10 at *
  ((obtain ⟨zu, rfl, zh⟩ := hz); (obtain ⟨za, zc, rfl, zr⟩ := id zh); (clear zr); (obtain ⟨sg, hsg⟩ : ∃ s, s = decide (z < 0) := ⟨_, rfl⟩); (rw [← hsg]); (have HSG := Lib.hid hsg); (clear hsg); (have p0 := bZ.c0); (have p1 := bZ.c1); (have pf0 := bZ.frozen 0); (have pf1 := bZ.frozen 1); (have pl := bZ.lt); (have KV := Lib.hid ((zh.put bZ.c0 (by intro z; simp) (.bool (sg))).put (bZ.set 0 (.bool (sg))).c1 (by intro z; simp) (.slice za (D.wd (z.natAbs)).length zc))); (have KI := Lib.hid ((hin.setCell (p := ⟨Z, 0, none⟩) hZb (.bool (sg))).setCell (p := ⟨Z, 1, none⟩) hZb (.slice za (D.wd (z.natAbs)).length zc))); (have KS := Lib.hid ((bZ.set 0 (.bool (sg))).set 1 (.slice za (D.wd (z.natAbs)).length zc))); (clear bZ zh hin); (go_wp2_with fail); (clear p0 p1 pf0 pf1 pl); (have KB := KS.out); (simp only [List.set] at KB); (have p0 := KB.c0); (have p1 := KB.c1); (exact bodyPost_ret (v := .agg #[.bool (sg), (.slice za (D.wd (z.natAbs)).length zc)]) (by simp [results, Tryz.results54, go_sem, p0, p1]) rfl ⟨⟨_, rfl, _, by rw [HSG.out], KV.out⟩, KI.out.bel⟩))
set_option maxRecDepth 100000 in
set_option maxHeartbeats 1000000 in
theorem zadd_b (w : World) (v1 v2 : Value) (x y : Int) (h1 : ZV w v1 x) (h2 : ZV w v2 y) (hs1 : (D.wd x.natAbs).length ≤ 1099511627776) (_hs2 : (D.wd y.natAbs).length ≤ 1099511627776) (hs3 : (D.wd (x + y).natAbs).length ≤ 4611686018427387904) (hb : (decide (x < 0) == decide (y < 0)) = false) (hc : y.natAbs ≤ x.natAbs) :
    Calls Tryz.prog 54 #[v1, v2] w fun e w' => RInt w (x + y) e w' := by
  obtain ⟨u1, rfl, hu1⟩ := h1
  obtain ⟨u2, rfl, hu2⟩ := h2
  obtain ⟨a1, k1, rfl, hr1⟩ := id hu1
  obtain ⟨a2, k2, rfl, hr2⟩ := id hu2
  clear hr1 hr2
  have c0 := fun W (h : In w.heap.size w W) => rcmp_any W _ _ _ _ (hu1.call h.bel) (hu2.call h.bel) hs1
  have hcm : (0 : Int) ≤ cmpN x.natAbs y.natAbs := by unfold cmpN; repeat' split <;> omega
  generalize cmpN x.natAbs y.natAbs = cv at *
  have c1 := fun W (h : In w.heap.size w W) => (rsub_any W _ _ _ _ hc (hu1.call h.bel) (hu2.call h.bel) hs1).mono fun _ _ => RNat.rel
  rw [show x.natAbs - y.natAbs = (x + y).natAbs by (by_cases hx : x < 0 <;> by_cases hy : y < 0 <;> simp only [hx, hy, decide_true, decide_false] at hb <;> (first | omega | (simp at hb)))] at c1
  have c2 := fun W u (h : NV W u (x + y).natAbs) => zfrom_any W (decide (x < 0)) u (x + y).natAbs h hs3
  have hz : (if (decide (x < 0)) = true then -((x + y).natAbs : Int) else (x + y).natAbs) = x + y := by
    by_cases hx : x < 0 <;> by_cases hy : y < 0 <;> simp only [hx, hy, decide_true, decide_false, if_true, Bool.false_eq_true, if_false] at hb ⊢ <;> (first | omega | (simp at hb))
  rw [hz] at c2
  clear hz hs1 hs3 hu1 hu2
  unfold RInt
  obtain ⟨base, hbase⟩ : ∃ b, b = w.heap.size := ⟨_, rfl⟩
  rw [← hbase] at c1 c0 ⊢
  have HB := Lib.hid hbase
  clear hbase
  obtain ⟨z, hz⟩ : ∃ z, z = x + y := ⟨_, rfl⟩
  rw [← hz] at c1 c2 ⊢
  clear hz
  generalize decide (x < 0) = b1 at *
  generalize decide (y < 0) = b2 at *
  generalize (D.wd x.natAbs).length = l1 at *
  generalize (D.wd y.natAbs).length = l2 at *
  clear hc
  go_enter Tryz.func54, Tryz.ntmps54
  go_upto_region 1 with fail
  ((obtain ⟨X, hXX⟩ : ∃ z, z = w.heap.size := ⟨_, rfl⟩); (have bV0 := (((Bx.new_at w #[.bool b1, .slice a1 l1 k1] 43 (n := X) (by simp [hXX])).alloc (.cells #[.bool b2, .slice a2 l2 k2] 43)).alloc (.cells #[.bool false, .slice none 0 0] 43))); (have bV1 := ((Bx.new_at (w.alloc (.cells #[.bool b1, .slice a1 l1 k1] 43)) #[.bool b2, .slice a2 l2 k2] 43 (n := X + 1) (by simp [hXX])).alloc (.cells #[.bool false, .slice none 0 0] 43))); (have bV2 := (Bx.new_at ((w.alloc (.cells #[.bool b1, .slice a1 l1 k1] 43)).alloc (.cells #[.bool b2, .slice a2 l2 k2] 43)) #[.bool false, .slice none 0 0] 43 (n := X + 1 + 1) (by simp [hXX]))); (have hV := ((((In.self w).alloc (.cells #[.bool b1, .slice a1 l1 k1] 43)).alloc (.cells #[.bool b2, .slice a2 l2 k2] 43)).alloc (.cells #[.bool false, .slice none 0 0] 43))); (rw [← hXX] at hV ⊢); (have HX := Lib.hid hXX); (clear hXX); (generalize ((w.alloc (.cells #[.bool b1, .slice a1 l1 k1] 43)).alloc (.cells #[.bool b2, .slice a2 l2 k2] 43)).alloc (.cells #[.bool false, .slice none 0 0] 43) = V at *))
  have hin : In base w V := by rw [HB.out, ← HX.out]; exact hV
  have hZb : base ≤ X + 1 + 1 := by rw [HB.out, ← HX.out]; omega
  clear hV HX
  skip
  ((have p0 := bV0.c0); (have p1 := bV0.c1); (have pl := bV0.lt))
  ((have q0 := bV1.c0); (have q1 := bV1.c1); (have ql := bV1.lt))
  ((go_wp2_with fail); (((with_reducible refine (c0 _ hin).mono ?_))); (rintro e wc1 ⟨rfl, hb⟩); (clear p0 p1 pl q0 q1 ql c0); (replace hin := hin.call hb); (replace bV0 := bV0.call hb); (replace bV1 := bV1.call hb); (replace bV2 := bV2.call hb); (clear hb))
  ((have p0 := bV0.c0); (have p1 := bV0.c1); (have pl := bV0.lt))
  ((have q0 := bV1.c0); (have q1 := bV1.c1); (have ql := bV1.lt))
  go_upto_region 4 with fail
  have h := In.self wc1; have hc := h.cell; have hf := h.frozen; refine wp_region_flow 8 (by kernel_rfl) (by kernel_rfl) (fun _ _ d _ _ h => by cases d <;> exact h) ?_; simp only [List.take_succ_cons, List.take_zero, List.drop_succ_cons, List.drop_zero]; simp only [putAll, Act.put, List.setIfInBounds_toArray, List.set]; (try simp only [Nat.reduceAdd]); (try simp only [Nat.zero_add]); (repeat (first | ((with_reducible refine flow_float (v := ?_) ?_ ?_ ?_); rotate_left 1; (focus (with_reducible rfl)); (focus (intro u w1 hw hd w2; (try simp only [depH] at hd); (try simp only [ext] at hd); (try simp only [extU] at hd); (try simp only [Nat.reduceAdd] at hd); (try simp only [Nat.reduceEqDiff] at hd); (try simp only [reduceIte] at hd); (try simp only [and_true] at hd); (try simp only [true_and] at hd); go_simp; exact rfl))) | ((first | ((with_reducible refine flow_pure0 (v := ?_) ?_ ?_ ?_ ?_); rotate_left 1; (focus (with_reducible rfl)); (focus rfl)) | ((with_reducible refine flow_pureg (v := ?_) (j := ?_) (b := ?_) ?_ ?_ ?_ ?_); rotate_left 3; (focus (with_reducible rfl)); (focus (intro u w1 hw hd; (try simp only [depH] at hd); (try simp only [ext] at hd); (try simp only [extU] at hd); (try simp only [Nat.reduceAdd] at hd); (try simp only [Nat.reduceEqDiff] at hd); (try simp only [reduceIte] at hd); (try simp only [and_true] at hd); (try simp only [true_and] at hd); simp [yielded, hd]; done)))); (focus (intro u w1 hw hd; (try simp only [depH] at hd); (try simp only [ext] at hd); (try simp only [extU] at hd); (try simp only [Nat.reduceAdd] at hd); (try simp only [Nat.reduceEqDiff] at hd); (try simp only [reduceIte] at hd); (try simp only [and_true] at hd); (try simp only [true_and] at hd); have hc' := hw.cell; go_simp; exact rfl))) | ((with_reducible refine flow_skipg (j := ?_) (b := ?_) ?_ ?_ ?_); rotate_left 2; (focus (with_reducible rfl)); (focus (intro u w1 hw hd; (try simp only [depH] at hd); (try simp only [ext] at hd); (try simp only [extU] at hd); (try simp only [Nat.reduceAdd] at hd); (try simp only [Nat.reduceEqDiff] at hd); (try simp only [reduceIte] at hd); (try simp only [and_true] at hd); (try simp only [true_and] at hd); simp [yielded, hd]; done))) | ((with_reducible refine flow_alloc (t := ?_) (zs := ?_) ?_ ?_ ?_ ?_); rotate_left 2; (focus (with_reducible rfl)); (focus rfl); (focus (intro u w1; go_simp; exact rfl)))))
  (with_reducible refine flow_rel (Vi := NVr z.natAbs) false ?_ ?_ ?_ ?_ ?_ ?_); (focus rfl); (focus rfl); (focus exact stable_nv _); (focus exact placed_false _); (focus (intro u w1 hw hd; (try simp only [depH] at hd); (try simp only [ext] at hd); (try simp only [extU] at hd); (try simp only [Nat.reduceAdd] at hd); (try simp only [Nat.reduceEqDiff] at hd); (try simp only [reduceIte] at hd); (try simp only [and_true] at hd); (try simp only [true_and] at hd); have hc' := hw.cell; go_simp; (try simp only [okUpon]); go_at_call 87; ((with_reducible refine (c1 _ (hin.call hw.ins.bel)).mono ?_)); rintro e w'' ⟨⟨v, rfl, hv⟩, hb⟩; exact ⟨v, rfl, ⟨hv, fun h => by cases h⟩, hb⟩))
  (with_reducible refine flow_rel (Vi := ZVr z) false ?_ ?_ ?_ ?_ ?_ ?_); (focus rfl); (focus rfl); (focus exact stable_zv _); (focus exact placed_false _); (focus (intro u w1 hw hd; (try simp only [depH] at hd); (try simp only [ext] at hd); (try simp only [extU] at hd); (try simp only [Nat.reduceAdd] at hd); (try simp only [Nat.reduceEqDiff] at hd); (try simp only [reduceIte] at hd); (try simp only [and_true] at hd); (try simp only [true_and] at hd); obtain ⟨hd1, hd2, _⟩ := hd; have hc' := hw.cell; go_simp; (try simp only [okUpon]); go_at_call 86; ((with_reducible refine (c2 _ _ hd2.v).mono ?_)); rintro e w'' ⟨⟨v, rfl, hv⟩, hb⟩; exact ⟨v, rfl, ⟨hv, fun h => by cases h⟩, hb⟩))
  (try clear hc hf h); intro u w' h ha hdi; replace h := h.ins; (try simp only [World.size_alloc] at h); (try dsimp only at ha); (repeat rw [World.size_alloc] at ha); (try simp only [allH] at ha); (try simp only [ext] at ha); (try simp only [extU] at ha); (try simp only [Nat.reduceAdd] at ha); (try simp only [Nat.reduceEqDiff] at ha); (try simp only [reduceIte] at ha); (try simp only [and_true] at ha); (try simp only [true_and] at ha); have hc := h.cell; have hf := h.frozen; have hb := h.bel; clear hdi hc hf; clear p0 p1 pl q0 q1 ql c1 c2; replace hin := hin.call hb; replace bV0 := bV0.call hb; replace bV1 := bV1.call hb; replace bV2 := bV2.call hb; clear hb h; rename World => W2
  generalize X + 1 + 1 = Z at *
  have bZ := bV2
  obtain ⟨⟨ha, h9⟩, hz⟩ := ha
  replace hz : ZV _ (u 7) z := hz
  simp only [ha]
  clear ha h9 bV2 bV0 bV1
  (try dsimp only)
  generalize u 7 = v10 at *
  ((obtain ⟨zu, rfl, zh⟩ := hz); (obtain ⟨za, zc, rfl, zr⟩ := id zh); (clear zr); (obtain ⟨sg, hsg⟩ : ∃ s, s = decide (z < 0) := ⟨_, rfl⟩); (rw [← hsg]); (have HSG := Lib.hid hsg); (clear hsg); (have p0 := bZ.c0); (have p1 := bZ.c1); (have pf0 := bZ.frozen 0); (have pf1 := bZ.frozen 1); (have pl := bZ.lt); (have KV := Lib.hid ((zh.put bZ.c0 (by intro z; simp) (.bool (sg))).put (bZ.set 0 (.bool (sg))).c1 (by intro z; simp) (.slice za (D.wd (z.natAbs)).length zc))); (have KI := Lib.hid ((hin.setCell (p := ⟨Z, 0, none⟩) hZb (.bool (sg))).setCell (p := ⟨Z, 1, none⟩) hZb (.slice za (D.wd (z.natAbs)).length zc))); (have KS := Lib.hid ((bZ.set 0 (.bool (sg))).set 1 (.slice za (D.wd (z.natAbs)).length zc))); (clear bZ zh hin); (go_wp2_with fail); (clear p0 p1 pf0 pf1 pl); (have KB := KS.out); (simp only [List.set] at KB); (have p0 := KB.c0); (have p1 := KB.c1); (exact bodyPost_ret (v := .agg #[.bool (sg), (.slice za (D.wd (z.natAbs)).length zc)]) (by simp [results, Tryz.results54, go_sem, p0, p1]) rfl ⟨⟨_, rfl, _, by rw [HSG.out], KV.out⟩, KI.out.bel⟩))
set_option maxRecDepth 100000 in
set_option maxHeartbeats 1000000 in
theorem zadd_c (w : World) (v1 v2 : Value) (x y : Int) (h1 : ZV w v1 x) (h2 : ZV w v2 y) (hs1 : (D.wd x.natAbs).length ≤ 1099511627776) (hs2 : (D.wd y.natAbs).length ≤ 1099511627776) (hs3 : (D.wd (x + y).natAbs).length ≤ 4611686018427387904) (hb : (decide (x < 0) == decide (y < 0)) = false) (hc : ¬ y.natAbs ≤ x.natAbs) :
    Calls Tryz.prog 54 #[v1, v2] w fun e w' => RInt w (x + y) e w' := by
  obtain ⟨u1, rfl, hu1⟩ := h1
  obtain ⟨u2, rfl, hu2⟩ := h2
  obtain ⟨a1, k1, rfl, hr1⟩ := id hu1
  obtain ⟨a2, k2, rfl, hr2⟩ := id hu2
  clear hr1 hr2
  have c0 := fun W (h : In w.heap.size w W) => rcmp_any W _ _ _ _ (hu1.call h.bel) (hu2.call h.bel) hs1
  have hcm : ¬ (0 : Int) ≤ cmpN x.natAbs y.natAbs := by unfold cmpN; repeat' split <;> omega
  generalize cmpN x.natAbs y.natAbs = cv at *
  have c1 := fun W (h : In w.heap.size w W) => (rsub_any W _ _ _ _ (by omega : x.natAbs ≤ y.natAbs) (hu2.call h.bel) (hu1.call h.bel) hs2).mono fun _ _ => RNat.rel
  rw [show y.natAbs - x.natAbs = (x + y).natAbs by (by_cases hx : x < 0 <;> by_cases hy : y < 0 <;> simp only [hx, hy, decide_true, decide_false] at hb <;> (first | omega | (simp at hb)))] at c1
  have c2 := fun W u (h : NV W u (x + y).natAbs) => zfrom_any W (decide (y < 0)) u (x + y).natAbs h hs3
  have hz : (if (decide (y < 0)) = true then -((x + y).natAbs : Int) else (x + y).natAbs) = x + y := by
    by_cases hx : x < 0 <;> by_cases hy : y < 0 <;> simp only [hx, hy, decide_true, decide_false, if_true, Bool.false_eq_true, if_false] at hb ⊢ <;> (first | omega | (simp at hb))
  rw [hz] at c2
  clear hz hs1 hs2 hs3 hu1 hu2
  unfold RInt
  obtain ⟨base, hbase⟩ : ∃ b, b = w.heap.size := ⟨_, rfl⟩
  rw [← hbase] at c1 c0 ⊢
  have HB := Lib.hid hbase
  clear hbase
  obtain ⟨z, hz⟩ : ∃ z, z = x + y := ⟨_, rfl⟩
  rw [← hz] at c1 c2 ⊢
  clear hz
  generalize decide (x < 0) = b1 at *
  generalize decide (y < 0) = b2 at *
  generalize (D.wd x.natAbs).length = l1 at *
  generalize (D.wd y.natAbs).length = l2 at *
  clear hc
  go_enter Tryz.func54, Tryz.ntmps54
  go_upto_region 1 with fail
  ((obtain ⟨X, hXX⟩ : ∃ z, z = w.heap.size := ⟨_, rfl⟩); (have bV0 := (((Bx.new_at w #[.bool b1, .slice a1 l1 k1] 43 (n := X) (by simp [hXX])).alloc (.cells #[.bool b2, .slice a2 l2 k2] 43)).alloc (.cells #[.bool false, .slice none 0 0] 43))); (have bV1 := ((Bx.new_at (w.alloc (.cells #[.bool b1, .slice a1 l1 k1] 43)) #[.bool b2, .slice a2 l2 k2] 43 (n := X + 1) (by simp [hXX])).alloc (.cells #[.bool false, .slice none 0 0] 43))); (have bV2 := (Bx.new_at ((w.alloc (.cells #[.bool b1, .slice a1 l1 k1] 43)).alloc (.cells #[.bool b2, .slice a2 l2 k2] 43)) #[.bool false, .slice none 0 0] 43 (n := X + 1 + 1) (by simp [hXX]))); (have hV := ((((In.self w).alloc (.cells #[.bool b1, .slice a1 l1 k1] 43)).alloc (.cells #[.bool b2, .slice a2 l2 k2] 43)).alloc (.cells #[.bool false, .slice none 0 0] 43))); (rw [← hXX] at hV ⊢); (have HX := Lib.hid hXX); (clear hXX); (generalize ((w.alloc (.cells #[.bool b1, .slice a1 l1 k1] 43)).alloc (.cells #[.bool b2, .slice a2 l2 k2] 43)).alloc (.cells #[.bool false, .slice none 0 0] 43) = V at *))
  have hin : In base w V := by rw [HB.out, ← HX.out]; exact hV
  have hZb : base ≤ X + 1 + 1 := by rw [HB.out, ← HX.out]; omega
  clear hV HX
  skip
  ((have p0 := bV0.c0); (have p1 := bV0.c1); (have pl := bV0.lt))
  ((have q0 := bV1.c0); (have q1 := bV1.c1); (have ql := bV1.lt))
  ((go_wp2_with fail); (((with_reducible refine (c0 _ hin).mono ?_))); (rintro e wc1 ⟨rfl, hb⟩); (clear p0 p1 pl q0 q1 ql c0); (replace hin := hin.call hb); (replace bV0 := bV0.call hb); (replace bV1 := bV1.call hb); (replace bV2 := bV2.call hb); (clear hb))
  ((have p0 := bV0.c0); (have p1 := bV0.c1); (have pl := bV0.lt))
  ((have q0 := bV1.c0); (have q1 := bV1.c1); (have ql := bV1.lt))
  go_upto_region 5 with fail
  have h := In.self wc1; have hc := h.cell; have hf := h.frozen; refine wp_region_flow 8 (by kernel_rfl) (by kernel_rfl) (fun _ _ d _ _ h => by cases d <;> exact h) ?_; simp only [List.take_succ_cons, List.take_zero, List.drop_succ_cons, List.drop_zero]; simp only [putAll, Act.put, List.setIfInBounds_toArray, List.set]; (try simp only [Nat.reduceAdd]); (try simp only [Nat.zero_add]); (repeat (first | ((with_reducible refine flow_float (v := ?_) ?_ ?_ ?_); rotate_left 1; (focus (with_reducible rfl)); (focus (intro u w1 hw hd w2; (try simp only [depH] at hd); (try simp only [ext] at hd); (try simp only [extU] at hd); (try simp only [Nat.reduceAdd] at hd); (try simp only [Nat.reduceEqDiff] at hd); (try simp only [reduceIte] at hd); (try simp only [and_true] at hd); (try simp only [true_and] at hd); go_simp; exact rfl))) | ((first | ((with_reducible refine flow_pure0 (v := ?_) ?_ ?_ ?_ ?_); rotate_left 1; (focus (with_reducible rfl)); (focus rfl)) | ((with_reducible refine flow_pureg (v := ?_) (j := ?_) (b := ?_) ?_ ?_ ?_ ?_); rotate_left 3; (focus (with_reducible rfl)); (focus (intro u w1 hw hd; (try simp only [depH] at hd); (try simp only [ext] at hd); (try simp only [extU] at hd); (try simp only [Nat.reduceAdd] at hd); (try simp only [Nat.reduceEqDiff] at hd); (try simp only [reduceIte] at hd); (try simp only [and_true] at hd); (try simp only [true_and] at hd); simp [yielded, hd]; done)))); (focus (intro u w1 hw hd; (try simp only [depH] at hd); (try simp only [ext] at hd); (try simp only [extU] at hd); (try simp only [Nat.reduceAdd] at hd); (try simp only [Nat.reduceEqDiff] at hd); (try simp only [reduceIte] at hd); (try simp only [and_true] at hd); (try simp only [true_and] at hd); have hc' := hw.cell; go_simp; exact rfl))) | ((with_reducible refine flow_skipg (j := ?_) (b := ?_) ?_ ?_ ?_); rotate_left 2; (focus (with_reducible rfl)); (focus (intro u w1 hw hd; (try simp only [depH] at hd); (try simp only [ext] at hd); (try simp only [extU] at hd); (try simp only [Nat.reduceAdd] at hd); (try simp only [Nat.reduceEqDiff] at hd); (try simp only [reduceIte] at hd); (try simp only [and_true] at hd); (try simp only [true_and] at hd); simp [yielded, hd]; done))) | ((with_reducible refine flow_alloc (t := ?_) (zs := ?_) ?_ ?_ ?_ ?_); rotate_left 2; (focus (with_reducible rfl)); (focus rfl); (focus (intro u w1; go_simp; exact rfl)))))
  (with_reducible refine flow_rel (Vi := NVr z.natAbs) false ?_ ?_ ?_ ?_ ?_ ?_); (focus rfl); (focus rfl); (focus exact stable_nv _); (focus exact placed_false _); (focus (intro u w1 hw hd; (try simp only [depH] at hd); (try simp only [ext] at hd); (try simp only [extU] at hd); (try simp only [Nat.reduceAdd] at hd); (try simp only [Nat.reduceEqDiff] at hd); (try simp only [reduceIte] at hd); (try simp only [and_true] at hd); (try simp only [true_and] at hd); have hc' := hw.cell; go_simp; (try simp only [okUpon]); go_at_call 87; ((with_reducible refine (c1 _ (hin.call hw.ins.bel)).mono ?_)); rintro e w'' ⟨⟨v, rfl, hv⟩, hb⟩; exact ⟨v, rfl, ⟨hv, fun h => by cases h⟩, hb⟩))
  (with_reducible refine flow_rel (Vi := ZVr z) false ?_ ?_ ?_ ?_ ?_ ?_); (focus rfl); (focus rfl); (focus exact stable_zv _); (focus exact placed_false _); (focus (intro u w1 hw hd; (try simp only [depH] at hd); (try simp only [ext] at hd); (try simp only [extU] at hd); (try simp only [Nat.reduceAdd] at hd); (try simp only [Nat.reduceEqDiff] at hd); (try simp only [reduceIte] at hd); (try simp only [and_true] at hd); (try simp only [true_and] at hd); obtain ⟨hd1, hd2, _⟩ := hd; have hc' := hw.cell; go_simp; (try simp only [okUpon]); go_at_call 86; ((with_reducible refine (c2 _ _ hd2.v).mono ?_)); rintro e w'' ⟨⟨v, rfl, hv⟩, hb⟩; exact ⟨v, rfl, ⟨hv, fun h => by cases h⟩, hb⟩))
  (try clear hc hf h); intro u w' h ha hdi; replace h := h.ins; (try simp only [World.size_alloc] at h); (try dsimp only at ha); (repeat rw [World.size_alloc] at ha); (try simp only [allH] at ha); (try simp only [ext] at ha); (try simp only [extU] at ha); (try simp only [Nat.reduceAdd] at ha); (try simp only [Nat.reduceEqDiff] at ha); (try simp only [reduceIte] at ha); (try simp only [and_true] at ha); (try simp only [true_and] at ha); have hc := h.cell; have hf := h.frozen; have hb := h.bel; clear hdi hc hf; clear p0 p1 pl q0 q1 ql c1 c2; replace hin := hin.call hb; replace bV0 := bV0.call hb; replace bV1 := bV1.call hb; replace bV2 := bV2.call hb; clear hb h; rename World => W2
  generalize X + 1 + 1 = Z at *
  have bZ := bV2
  obtain ⟨⟨ha, h9⟩, hz⟩ := ha
  replace hz : ZV _ (u 7) z := hz
  simp only [ha]
  clear ha h9 bV2 bV0 bV1
  (try dsimp only)
  generalize u 7 = v10 at *
  ((obtain ⟨zu, rfl, zh⟩ := hz); (obtain ⟨za, zc, rfl, zr⟩ := id zh); (clear zr); (obtain ⟨sg, hsg⟩ : ∃ s, s = decide (z < 0) := ⟨_, rfl⟩); (rw [← hsg]); (have HSG := Lib.hid hsg); (clear hsg); (have p0 := bZ.c0); (have p1 := bZ.c1); (have pf0 := bZ.frozen 0); (have pf1 := bZ.frozen 1); (have pl := bZ.lt); (have KV := Lib.hid ((zh.put bZ.c0 (by intro z; simp) (.bool (sg))).put (bZ.set 0 (.bool (sg))).c1 (by intro z; simp) (.slice za (D.wd (z.natAbs)).length zc))); (have KI := Lib.hid ((hin.setCell (p := ⟨Z, 0, none⟩) hZb (.bool (sg))).setCell (p := ⟨Z, 1, none⟩) hZb (.slice za (D.wd (z.natAbs)).length zc))); (have KS := Lib.hid ((bZ.set 0 (.bool (sg))).set 1 (.slice za (D.wd (z.natAbs)).length zc))); (clear bZ zh hin); (go_wp2_with fail); (clear p0 p1 pf0 pf1 pl); (have KB := KS.out); (simp only [List.set] at KB); (have p0 := KB.c0); (have p1 := KB.c1); (exact bodyPost_ret (v := .agg #[.bool (sg), (.slice za (D.wd (z.natAbs)).length zc)]) (by simp [results, Tryz.results54, go_sem, p0, p1]) rfl ⟨⟨_, rfl, _, by rw [HSG.out], KV.out⟩, KI.out.bel⟩))
theorem zadd_any (w : World) (v1 v2 : Value) (x y : Int) (h1 : ZV w v1 x) (h2 : ZV w v2 y) (hs1 : (D.wd x.natAbs).length ≤ 1099511627776) (hs2 : (D.wd y.natAbs).length ≤ 1099511627776) (hs3 : (D.wd (x + y).natAbs).length ≤ 4611686018427387904) :
    Calls Tryz.prog 54 #[v1, v2] w fun e w' => RInt w (x + y) e w' := by
  by_cases hb : decide (x < 0) = decide (y < 0)
  · exact zadd_a w v1 v2 x y h1 h2 hs1 hs2 hs3 hb
  · have hb' : (decide (x < 0) == decide (y < 0)) = false := by simp only [beq_eq_false_iff_ne]; exact hb
    by_cases hc : y.natAbs ≤ x.natAbs
    · exact zadd_b w v1 v2 x y h1 h2 hs1 hs2 hs3 hb' hc
    · exact zadd_c w v1 v2 x y h1 h2 hs1 hs2 hs3 hb' hc
end Gus
end
section
/- The reference's fractions: one, Den, den. -/
namespace Gus
open Go Go.RowKit Go.Proofs
/-- a fraction of the reference in memory -/
def FV (w : World) (v : Value) (q : Rat) : Prop := ∃ a k c u, v = .agg #[.bool (decide (q.num < 0)), .slice a k c, u] ∧ NV w (.slice a k c) q.num.natAbs ∧ NV w u (q.den - 1)
theorem FV.call {w w' : World} {v : Value} {q : Rat} (h : FV w v q) (hb : Below w.heap.size w w') : FV w' v q := by
  obtain ⟨a, k, c, u, h1, h2, h3⟩ := h
  exact ⟨a, k, c, u, h1, h2.call hb, h3.call hb⟩
theorem rfone_any (w : World) : Calls Tryz.prog 88 #[] w fun e w' => RNat w 1 e w' := by
  have c1 : ∀ w, Calls Tryz.prog 125 #[.int .u64 1] w fun e w' => RNat w 1 e w' := fun w => rof_any 1 (by decide) w
  go_enter Tryz.func88, Tryz.ntmps88
  go_wp2_with fail
  ((with_reducible refine (c1 _).mono ?_))
  rintro e w2 ⟨v, rfl, hv, hb⟩
  clear c1
  go_wp2_with fail
  exact bodyPost_ret (v := v) (by simp [results, Tryz.results88, go_sem]) rfl ⟨_, rfl, hv, hb⟩
set_option maxRecDepth 100000 in
set_option maxHeartbeats 1000000 in
theorem rfden_any (w : World) (v : Value) (q : Rat) (h : FV w v q) (hs : (D.wd (q.den - 1)).length ≤ 1099511627776) :
    Calls Tryz.prog 58 #[v] w fun e w' => RNat w q.den e w' := by
  obtain ⟨a1, l1, k1, u2, rfl, hu1, hu2⟩ := h
  obtain ⟨a2, k2, rfl, hr2⟩ := id hu2
  clear hr2 hu1
  have h1 : (D.wd 1).length ≤ 1099511627776 := Nat.le_trans (D.wd_length (n := 1) (k := 1) (by decide)) (by decide)
  have hd : q.den - 1 + 1 = q.den := by have := q.den_pos; omega
  have c1 := fun W u (h : In w.heap.size w W) (hu : NV W u 1) => (radd_any W _ _ _ _ (hu2.call h.bel) hu hs h1).mono fun _ _ => RNat.rel
  have c0 := fun W => (rfone_any W).mono fun _ _ => RNat.rel
  rw [hd] at c1
  clear hd h1 hu2 hs
  unfold RNat
  obtain ⟨base, hbase⟩ : ∃ b, b = w.heap.size := ⟨_, rfl⟩
  rw [← hbase] at c1 ⊢
  have HB := Lib.hid hbase
  clear hbase
  generalize decide (q.num < 0) = b1 at *
  generalize (D.wd (q.den - 1)).length = l2 at *
  generalize q.den = d at *
  go_enter Tryz.func58, Tryz.ntmps58
  go_upto_region 1 with fail
  ((obtain ⟨X, hXX⟩ : ∃ z, z = w.heap.size := ⟨_, rfl⟩); (have bV0 := (Bx.new_at w #[.bool b1, .slice a1 l1 k1, .slice a2 l2 k2] 45 (n := X) (by simp [hXX]))); (have hV := ((In.self w).alloc (.cells #[.bool b1, .slice a1 l1 k1, .slice a2 l2 k2] 45))); (rw [← hXX] at hV ⊢); (have HX := Lib.hid hXX); (clear hXX); (generalize w.alloc (.cells #[.bool b1, .slice a1 l1 k1, .slice a2 l2 k2] 45) = V at *))
  have hin : In base w V := by rw [HB.out, ← HX.out]; exact hV
  clear hV HX
  skip
  ((have p0 := bV0.c0); (have p1 := bV0.c1); (have p2 := bV0.c2); (have pl := bV0.lt))
  have h := In.self V; have hc := h.cell; have hf := h.frozen; refine wp_region_flow 4 (by kernel_rfl) (by kernel_rfl) (fun _ _ d _ _ h => by cases d <;> exact h) ?_; simp only [List.take_succ_cons, List.take_zero, List.drop_succ_cons, List.drop_zero]; simp only [putAll, Act.put, List.setIfInBounds_toArray, List.set]; (try simp only [Nat.reduceAdd]); (try simp only [Nat.zero_add]); (repeat (first | ((with_reducible refine flow_float (v := ?_) ?_ ?_ ?_); rotate_left 1; (focus (with_reducible rfl)); (focus (intro u w1 hw hd w2; (try simp only [depH] at hd); (try simp only [ext] at hd); (try simp only [extU] at hd); (try simp only [Nat.reduceAdd] at hd); (try simp only [Nat.reduceEqDiff] at hd); (try simp only [reduceIte] at hd); (try simp only [and_true] at hd); (try simp only [true_and] at hd); go_simp; exact rfl))) | ((first | ((with_reducible refine flow_pure0 (v := ?_) ?_ ?_ ?_ ?_); rotate_left 1; (focus (with_reducible rfl)); (focus rfl)) | ((with_reducible refine flow_pureg (v := ?_) (j := ?_) (b := ?_) ?_ ?_ ?_ ?_); rotate_left 3; (focus (with_reducible rfl)); (focus (intro u w1 hw hd; (try simp only [depH] at hd); (try simp only [ext] at hd); (try simp only [extU] at hd); (try simp only [Nat.reduceAdd] at hd); (try simp only [Nat.reduceEqDiff] at hd); (try simp only [reduceIte] at hd); (try simp only [and_true] at hd); (try simp only [true_and] at hd); simp [yielded, hd]; done)))); (focus (intro u w1 hw hd; (try simp only [depH] at hd); (try simp only [ext] at hd); (try simp only [extU] at hd); (try simp only [Nat.reduceAdd] at hd); (try simp only [Nat.reduceEqDiff] at hd); (try simp only [reduceIte] at hd); (try simp only [and_true] at hd); (try simp only [true_and] at hd); have hc' := hw.cell; go_simp; exact rfl))) | ((with_reducible refine flow_skipg (j := ?_) (b := ?_) ?_ ?_ ?_); rotate_left 2; (focus (with_reducible rfl)); (focus (intro u w1 hw hd; (try simp only [depH] at hd); (try simp only [ext] at hd); (try simp only [extU] at hd); (try simp only [Nat.reduceAdd] at hd); (try simp only [Nat.reduceEqDiff] at hd); (try simp only [reduceIte] at hd); (try simp only [and_true] at hd); (try simp only [true_and] at hd); simp [yielded, hd]; done))) | ((with_reducible refine flow_alloc (t := ?_) (zs := ?_) ?_ ?_ ?_ ?_); rotate_left 2; (focus (with_reducible rfl)); (focus rfl); (focus (intro u w1; go_simp; exact rfl)))))
  (with_reducible refine flow_rel (Vi := NVr 1) false ?_ ?_ ?_ ?_ ?_ ?_); (focus rfl); (focus rfl); (focus exact stable_nv _); (focus exact placed_false _); (focus (intro u w1 hw hd; (try simp only [depH] at hd); (try simp only [ext] at hd); (try simp only [extU] at hd); (try simp only [Nat.reduceAdd] at hd); (try simp only [Nat.reduceEqDiff] at hd); (try simp only [reduceIte] at hd); (try simp only [and_true] at hd); (try simp only [true_and] at hd); have hc' := hw.cell; go_simp; (try simp only [okUpon]); go_at_call 88; ((with_reducible refine (c0 _).mono ?_)); rintro e w'' ⟨⟨v, rfl, hv⟩, hb⟩; exact ⟨v, rfl, ⟨hv, fun h => by cases h⟩, hb⟩))
  (with_reducible refine flow_rel (Vi := NVr d) false ?_ ?_ ?_ ?_ ?_ ?_); (focus rfl); (focus rfl); (focus exact stable_nv _); (focus exact placed_false _); (focus (intro u w1 hw hd; (try simp only [depH] at hd); (try simp only [ext] at hd); (try simp only [extU] at hd); (try simp only [Nat.reduceAdd] at hd); (try simp only [Nat.reduceEqDiff] at hd); (try simp only [reduceIte] at hd); (try simp only [and_true] at hd); (try simp only [true_and] at hd); obtain ⟨hd1, hd2, _⟩ := hd; have hc' := hw.cell; go_simp; (try simp only [okUpon]); go_at_call 89; ((with_reducible refine (c1 _ _ (hin.call hw.ins.bel) hd2.v).mono ?_)); rintro e w'' ⟨⟨v, rfl, hv⟩, hb⟩; exact ⟨v, rfl, ⟨hv, fun h => by cases h⟩, hb⟩))
  (try clear hc hf h); intro u w' h ha hdi; replace h := h.ins; (try simp only [World.size_alloc] at h); (try dsimp only at ha); (repeat rw [World.size_alloc] at ha); (try simp only [allH] at ha); (try simp only [ext] at ha); (try simp only [extU] at ha); (try simp only [Nat.reduceAdd] at ha); (try simp only [Nat.reduceEqDiff] at ha); (try simp only [reduceIte] at ha); (try simp only [and_true] at ha); (try simp only [true_and] at ha); have hc := h.cell; have hf := h.frozen; have hb := h.bel; clear hdi hc hf; clear p0 p1 p2 pl c1 c0; replace hin := hin.call hb; replace bV0 := bV0.call hb; clear hb h; rename World => W1
  obtain ⟨⟨ha, h9⟩, hz⟩ := ha
  have HZ := Lib.hid hz.v
  simp only [ha]
  clear ha h9 bV0 hz
  go_wp2_with fail
  exact bodyPost_ret (v := u 3) (by simp [results, Tryz.results58, go_sem]) rfl ⟨_, rfl, HZ.out, hin.bel⟩
end Gus
end
