/- Proved here: parts of the proof: FracB FracC. Conditions: those that each theorem states. -/
import Derived.Test.YtakblfhmllgepaaGreatDoorIntBQ
import Derived.Test.YtakblfhmllgepaaGreatDoorFlowQ
section
/- Lowest terms. -/
namespace Gus
open Go Go.RowKit Go.Proofs
abbrev natO (n : Nat) : Obj := .cells #[.int .u64 (lo n), .string (bg n)] 50
theorem In.of (w : World) {n : Nat} (hn : n = w.heap.size) : In n w w := by subst hn; exact .self w
theorem mk_parts (z : Int) (d : Nat) (hd : d ≠ 0) : fracV (mkRat z d) = .agg #[.int .u64 (lo (z.natAbs / Nat.gcd z.natAbs d)), .string (bg (z.natAbs / Nat.gcd z.natAbs d)), .bool (decide (z < 0)), .int .u64 (lo (d / Nat.gcd z.natAbs d - 1)), .string (bg (d / Nat.gcd z.natAbs d - 1))] := by
  rw [fracV, mk_natAbs z d hd, mk_den z d hd]
  have := mk_neg z d hd
  rw [show decide ((mkRat z d).num < 0) = decide (z < 0) by rw [decide_eq_decide]; exact this]
theorem isign_neg (z : Int) : isign z < 0 ↔ z < 0 := by
  unfold isign; split
  · simp [*]
  · split <;> simp <;> omega
theorem gcd_div_zero (z : Int) (d : Nat) : (decide (z < 0) && !decide (z.natAbs / Nat.gcd z.natAbs d = 0)) = decide (z < 0) := by
  by_cases h : z < 0
  · have hz : z.natAbs ≠ 0 := by omega
    have hg : 0 < Nat.gcd z.natAbs d := Nat.gcd_pos_of_pos_left _ (by omega)
    have : z.natAbs / Nat.gcd z.natAbs d ≠ 0 := by
      have := Nat.div_pos (Nat.le_of_dvd (by omega) (Nat.gcd_dvd_left z.natAbs d)) hg
      omega
    simp [h, this]
  · simp [h]
set_option maxRecDepth 100000 in
set_option maxHeartbeats 2000000 in
/-- fracs.lowest -/
theorem lowest_any (z : Int) (d : Nat) (hd0 : d ≠ 0) (hz : Wl z.natAbs) (hd : Wl d) (w : World) :
    Calls Tryz.prog 63 #[intV z, natV d] w fun e w' => e = .returned (fracV (mkRat z d)) ∧ Below w.heap.size w w' := by
  have hgp : ¬ Nat.gcd z.natAbs d = 0 := fun h => hd0 (Nat.eq_zero_of_gcd_eq_zero_right h)
  have hgl : Nat.gcd z.natAbs d ≤ d := Nat.le_of_dvd (by omega) (Nat.gcd_dvd_right _ _)
  have hq1 : 1 ≤ d / Nat.gcd z.natAbs d := Nat.div_pos hgl (by omega)
  have hA := abs_any z
  have hG := gcd_any z.natAbs d hz hd
  have hD1 := div_any z.natAbs (Nat.gcd z.natAbs d) hgp hz (hd.mono hgl)
  have hD2 := div_any d (Nat.gcd z.natAbs d) hgp hd (hd.mono hgl)
  have hO := natOf_any 1 (by decide) (by decide)
  rw [show (1 : Int).toNat = 1 from rfl] at hO
  have hS := sub_ge (d / Nat.gcd z.natAbs d) 1 hq1 (hd.mono (Nat.div_le_self _ _)) Wl_one
  have hI := isign_any z
  have hs1 : decide (isign z < 0) = decide (z < 0) := by rw [decide_eq_decide]; exact isign_neg z
  have hF := from_any (decide (z < 0)) (z.natAbs / Nat.gcd z.natAbs d)
  rw [intV_sgn, gcd_div_zero z d] at hF
  rw [mk_parts z d hd0]
  obtain ⟨g, hg⟩ : ∃ g, g = Nat.gcd z.natAbs d := ⟨_, rfl⟩
  rw [← hg] at hG hD1 hD2 hS hF ⊢
  obtain ⟨p, hp⟩ : ∃ p, p = z.natAbs / g := ⟨_, rfl⟩
  obtain ⟨q, hq⟩ : ∃ q, q = d / g := ⟨_, rfl⟩
  obtain ⟨r, hr⟩ : ∃ r, r = z.natAbs % g := ⟨_, rfl⟩
  obtain ⟨r2, hr2⟩ : ∃ r, r = d % g := ⟨_, rfl⟩
  rw [← hp, ← hr] at hD1
  rw [← hp] at hF ⊢
  rw [← hq, ← hr2] at hD2
  rw [← hq] at hS ⊢
  obtain ⟨q1, hq1'⟩ : ∃ q1, q1 = q - 1 := ⟨_, rfl⟩
  rw [← hq1'] at hS ⊢
  obtain ⟨s, hs⟩ : ∃ s, s = decide (z < 0) := ⟨_, rfl⟩
  rw [intV] at hA hI ⊢
  rw [← hs] at hs1 hF hA hI ⊢
  clear hgp hgl hq1 hg hp hq hr hr2 hq1' hz hd hd0
  obtain ⟨N, hN⟩ : ∃ N, N = w.heap.size := ⟨_, rfl⟩
  obtain ⟨W0, hW0⟩ : ∃ W0, W0 = ((w.alloc (.cells #[.int .u64 (lo z.natAbs), .string (bg z.natAbs), .bool s] 54)).alloc (natO d)).alloc (.cells #[.int .u64 0, .string ⟨#[]⟩, .bool false, .int .u64 0, .string ⟨#[]⟩] 56) := ⟨_, rfl⟩
  have bz : Bx W0 N 54 [.int .u64 (lo z.natAbs), .string (bg z.natAbs), .bool s] := by rw [hW0]; exact ((Bx.new_at w _ _ hN).alloc _).alloc _
  have bd : natB W0 (N + 1) d := by rw [hW0]; exact (Bx.new_at _ _ _ (by rw [World.size_alloc, hN])).alloc _
  have bf : Bx W0 (N + 1 + 1) 56 [.int .u64 0, .string ⟨#[]⟩, .bool false, .int .u64 0, .string ⟨#[]⟩] := by rw [hW0]; exact Bx.new_at _ _ _ (by rw [World.size_alloc, World.size_alloc, hN])
  have hin : In N w W0 := by rw [hW0, hN]; exact (((In.self w).alloc _).alloc _).alloc _
  have HW := Lib.hid hW0
  have HN := Lib.hid hN
  clear hW0 hN hs
  go_enter Tryz.func63, Tryz.ntmps63
  go_upto_region 1 with fail
  rw [← HN.out, ← HW.out]
  have z0 := bz.c0
  have z1 := bz.c1
  have z2 := bz.c2
  have d0 := bd.c0
  have d1 := bd.c1
  have hl0 := bz.lt
  have hl1 := bd.lt
  refine wp_region_flow 5 (by kernel_rfl) (by kernel_rfl) (fun _ _ d _ _ h => by cases d <;> exact h) ?_; simp only [List.take_succ_cons, List.take_zero, List.drop_succ_cons, List.drop_zero]; simp only [putAll, Act.put, List.setIfInBounds_toArray, List.set]; (try simp only [Nat.reduceAdd]); (try simp only [Nat.zero_add]); (repeat (first | ((with_reducible refine flow_float (v := ?_) ?_ ?_ ?_); rotate_left 1; (focus (with_reducible rfl)); (focus (intro u w1 hw hd w2; (try simp only [depH] at hd); (try simp only [ext] at hd); (try simp only [extU] at hd); (try simp only [Nat.reduceAdd] at hd); (try simp only [Nat.reduceEqDiff] at hd); (try simp only [reduceIte] at hd); (try simp only [and_true] at hd); (try simp only [true_and] at hd); go_simp; exact rfl))) | ((first | ((with_reducible refine flow_pure0 (v := ?_) ?_ ?_ ?_ ?_); rotate_left 1; (focus (with_reducible rfl)); (focus rfl)) | ((with_reducible refine flow_pureg (v := ?_) (j := ?_) (b := ?_) ?_ ?_ ?_ ?_); rotate_left 3; (focus (with_reducible rfl)); (focus (intro u w1 hw hd; (try simp only [depH] at hd); (try simp only [ext] at hd); (try simp only [extU] at hd); (try simp only [Nat.reduceAdd] at hd); (try simp only [Nat.reduceEqDiff] at hd); (try simp only [reduceIte] at hd); (try simp only [and_true] at hd); (try simp only [true_and] at hd); simp [yielded, hd]; done)))); (focus (intro u w1 hw hd; (try simp only [depH] at hd); (try simp only [ext] at hd); (try simp only [extU] at hd); (try simp only [Nat.reduceAdd] at hd); (try simp only [Nat.reduceEqDiff] at hd); (try simp only [reduceIte] at hd); (try simp only [and_true] at hd); (try simp only [true_and] at hd); have hc' := hw.cell; first | (go_simp; exact rfl) | (go_simp; go_at_call 79; ((with_reducible refine (hA _).mono ?_)); rintro e w'' ⟨rfl, hb⟩; refine ⟨?_, hb⟩; exact rfl) | (go_simp; go_at_call 97; ((with_reducible refine (hG _).mono ?_)); rintro e w'' ⟨rfl, hb⟩; refine ⟨?_, hb⟩; exact rfl)))) | ((with_reducible refine flow_skipg (j := ?_) (b := ?_) ?_ ?_ ?_); rotate_left 2; (focus (with_reducible rfl)); (focus (intro u w1 hw hd; (try simp only [depH] at hd); (try simp only [ext] at hd); (try simp only [extU] at hd); (try simp only [Nat.reduceAdd] at hd); (try simp only [Nat.reduceEqDiff] at hd); (try simp only [reduceIte] at hd); (try simp only [and_true] at hd); (try simp only [true_and] at hd); simp [yielded, hd]; done))) | ((with_reducible refine flow_alloc (t := ?_) (zs := ?_) ?_ ?_ ?_ ?_); rotate_left 2; (focus (with_reducible rfl)); (focus rfl); (focus (intro u w1; go_simp; exact rfl)))))
  (try clear hc hf h); intro u w' h ha hdi; replace h := h.ins; (try simp only [World.size_alloc] at h); (try dsimp only at ha); (repeat rw [World.size_alloc] at ha); (try simp only [allH] at ha); (try simp only [ext] at ha); (try simp only [extU] at ha); (try simp only [Nat.reduceAdd] at ha); (try simp only [Nat.reduceEqDiff] at ha); (try simp only [reduceIte] at ha); (try simp only [and_true] at ha); (try simp only [true_and] at ha); have hc := h.cell; have hf := h.frozen
  (try obtain ⟨ha, G, hu, hGN, bg1⟩ := ha); (try dsimp only);  simp only [ha, hu]; clear ha hdi hu
  have cz := bz.below h.bel hl0
  have cd := bd.below h.bel hl1
  have cf := bf.below h.bel bf.lt
  have hGf : N + 1 + 1 < G := Nat.lt_of_lt_of_le bf.lt hGN
  replace hin := hin.call h.bel
  have g0 := bg1.c0
  have g1 := bg1.c1
  have gf0 := bg1.frozen 0
  have gf1 := bg1.frozen 1
  clear z0 z1 z2 d0 d1 hl0 hl1 bz bd bf hc hf h HW hGN
  go_upto_region 2 with fail
  have bz := (cz.other (a := ⟨G, 0, none⟩) (by simp; omega) (.int .u64 (lo g))).other (a := ⟨G, 1, none⟩) (by simp; omega) (.string (bg g))
  have bd := (Bx.other cd (a := ⟨G, 0, none⟩) (by simp; omega) (.int .u64 (lo g))).other (a := ⟨G, 1, none⟩) (by simp; omega) (.string (bg g))
  have bf := (cf.other (a := ⟨G, 0, none⟩) (by simp; omega) (.int .u64 (lo g))).other (a := ⟨G, 1, none⟩) (by simp; omega) (.string (bg g))
  have bgg : natB _ G g := (Bx.set bg1 0 (.int .u64 (lo g))).set 1 (.string (bg g))
  replace hin := (hin.setCell (p := ⟨G, 0, none⟩) (by simp; omega) (.int .u64 (lo g))).setCell (p := ⟨G, 1, none⟩) (by simp; omega) (.string (bg g))
  clear cz cd cf bg1 g0 g1 gf0 gf1
  generalize (w'.setCell ⟨G, 0, none⟩ (.int .u64 (lo g))).setCell ⟨G, 1, none⟩ (.string (bg g)) = W1 at *
  have z0 := bz.c0
  have z1 := bz.c1
  have z2 := bz.c2
  have g0 := bgg.c0
  have g1 := bgg.c1
  have hl0 := bz.lt
  have hl1 := bgg.lt
  refine wp_region_flow 10 (by kernel_rfl) (by kernel_rfl) (fun _ _ d _ _ h => by cases d <;> exact h) ?_; simp only [List.take_succ_cons, List.take_zero, List.drop_succ_cons, List.drop_zero]; simp only [putAll, Act.put, List.setIfInBounds_toArray, List.set]; (try simp only [Nat.reduceAdd]); (try simp only [Nat.zero_add]); (repeat (first | ((with_reducible refine flow_float (v := ?_) ?_ ?_ ?_); rotate_left 1; (focus (with_reducible rfl)); (focus (intro u w1 hw hd w2; (try simp only [depH] at hd); (try simp only [ext] at hd); (try simp only [extU] at hd); (try simp only [Nat.reduceAdd] at hd); (try simp only [Nat.reduceEqDiff] at hd); (try simp only [reduceIte] at hd); (try simp only [and_true] at hd); (try simp only [true_and] at hd); go_simp; exact rfl))) | ((first | ((with_reducible refine flow_pure0 (v := ?_) ?_ ?_ ?_ ?_); rotate_left 1; (focus (with_reducible rfl)); (focus rfl)) | ((with_reducible refine flow_pureg (v := ?_) (j := ?_) (b := ?_) ?_ ?_ ?_ ?_); rotate_left 3; (focus (with_reducible rfl)); (focus (intro u w1 hw hd; (try simp only [depH] at hd); (try simp only [ext] at hd); (try simp only [extU] at hd); (try simp only [Nat.reduceAdd] at hd); (try simp only [Nat.reduceEqDiff] at hd); (try simp only [reduceIte] at hd); (try simp only [and_true] at hd); (try simp only [true_and] at hd); simp [yielded, hd]; done)))); (focus (intro u w1 hw hd; (try simp only [depH] at hd); (try simp only [ext] at hd); (try simp only [extU] at hd); (try simp only [Nat.reduceAdd] at hd); (try simp only [Nat.reduceEqDiff] at hd); (try simp only [reduceIte] at hd); (try simp only [and_true] at hd); (try simp only [true_and] at hd); have hc' := hw.cell; first | (go_simp; exact rfl) | (go_simp; go_at_call 79; ((with_reducible refine (hA _).mono ?_)); rintro e w'' ⟨rfl, hb⟩; refine ⟨?_, hb⟩; exact rfl) | (go_simp; go_at_call 98; ((with_reducible refine (hD1 _).mono ?_)); rintro e w'' ⟨rfl, hb⟩; refine ⟨?_, hb⟩; exact rfl)))) | ((with_reducible refine flow_skipg (j := ?_) (b := ?_) ?_ ?_ ?_); rotate_left 2; (focus (with_reducible rfl)); (focus (intro u w1 hw hd; (try simp only [depH] at hd); (try simp only [ext] at hd); (try simp only [extU] at hd); (try simp only [Nat.reduceAdd] at hd); (try simp only [Nat.reduceEqDiff] at hd); (try simp only [reduceIte] at hd); (try simp only [and_true] at hd); (try simp only [true_and] at hd); simp [yielded, hd]; done))) | ((with_reducible refine flow_alloc (t := ?_) (zs := ?_) ?_ ?_ ?_ ?_); rotate_left 2; (focus (with_reducible rfl)); (focus rfl); (focus (intro u w1; go_simp; exact rfl)))))
  (try clear hc hf h); intro u w' h ha hdi; replace h := h.ins; (try simp only [World.size_alloc] at h); (try dsimp only at ha); (repeat rw [World.size_alloc] at ha); (try simp only [allH] at ha); (try simp only [ext] at ha); (try simp only [extU] at ha); (try simp only [Nat.reduceAdd] at ha); (try simp only [Nat.reduceEqDiff] at ha); (try simp only [reduceIte] at ha); (try simp only [and_true] at ha); (try simp only [true_and] at ha); have hc := h.cell; have hf := h.frozen
  obtain ⟨⟨ha, P, hu, hPW, bp1⟩, P2, hu2, hPW2, bp2⟩ := ha
  have hPP' := hdi 9 8 (by decide) (by decide) (by decide) rfl rfl _ (by rw [hu2]; rfl); rw [hu] at hPP'; have hPP : ¬ P = P2 := fun h => hPP' (congrArg some h); have hPP_ : ¬ P2 = P := fun h => hPP h.symm; clear hPP'
  (try obtain ha := ha); (try dsimp only);  simp only [ha, hu, hu2]; clear ha hdi hu hu2
  have cz := bz.below h.bel hl0
  have cd := bd.below h.bel bd.lt
  have cf := bf.below h.bel bf.lt
  have cg := bgg.below h.bel bgg.lt
  have hPG : G < P := Nat.lt_of_lt_of_le bgg.lt hPW
  have hPG2 : G < P2 := Nat.lt_of_lt_of_le bgg.lt hPW2
  replace hin := hin.call h.bel
  have g0 := bp1.c0
  have g1 := bp1.c1
  have gf0 := bp1.frozen 0
  have gf1 := bp1.frozen 1
  have i0 := bp2.c0
  have i1 := bp2.c1
  have if0 := bp2.frozen 0
  have if1 := bp2.frozen 1
  clear z0 z1 z2 hl0 hl1 bz bd bf bgg hc hf h hPW hPW2
  go_upto_region 3 with fail
  have bz := (((cz.other (a := ⟨P, 0, none⟩) (by simp; omega) (.int .u64 (lo p))).other (a := ⟨P, 1, none⟩) (by simp; omega) (.string (bg p))).other (a := ⟨P2, 0, none⟩) (by simp; omega) (.int .u64 (lo r))).other (a := ⟨P2, 1, none⟩) (by simp; omega) (.string (bg r))
  have bd := (((Bx.other cd (a := ⟨P, 0, none⟩) (by simp; omega) (.int .u64 (lo p))).other (a := ⟨P, 1, none⟩) (by simp; omega) (.string (bg p))).other (a := ⟨P2, 0, none⟩) (by simp; omega) (.int .u64 (lo r))).other (a := ⟨P2, 1, none⟩) (by simp; omega) (.string (bg r))
  have bf := (((cf.other (a := ⟨P, 0, none⟩) (by simp; omega) (.int .u64 (lo p))).other (a := ⟨P, 1, none⟩) (by simp; omega) (.string (bg p))).other (a := ⟨P2, 0, none⟩) (by simp; omega) (.int .u64 (lo r))).other (a := ⟨P2, 1, none⟩) (by simp; omega) (.string (bg r))
  have bgg := (((Bx.other cg (a := ⟨P, 0, none⟩) (by simp; omega) (.int .u64 (lo p))).other (a := ⟨P, 1, none⟩) (by simp; omega) (.string (bg p))).other (a := ⟨P2, 0, none⟩) (by simp; omega) (.int .u64 (lo r))).other (a := ⟨P2, 1, none⟩) (by simp; omega) (.string (bg r))
  have bp : natB _ P p := (((Bx.set bp1 0 (.int .u64 (lo p))).set 1 (.string (bg p))).other (a := ⟨P2, 0, none⟩) hPP_ (.int .u64 (lo r))).other (a := ⟨P2, 1, none⟩) hPP_ (.string (bg r))
  replace hin := (((hin.setCell (p := ⟨P, 0, none⟩) (by simp; omega) (.int .u64 (lo p))).setCell (p := ⟨P, 1, none⟩) (by simp; omega) (.string (bg p))).setCell (p := ⟨P2, 0, none⟩) (by simp; omega) (.int .u64 (lo r))).setCell (p := ⟨P2, 1, none⟩) (by simp; omega) (.string (bg r))
  clear cz cd cf cg bp1 bp2 g0 g1 gf0 gf1 i0 i1 if0 if1
  generalize (((w'.setCell ⟨P, 0, none⟩ (.int .u64 (lo p))).setCell ⟨P, 1, none⟩ (.string (bg p))).setCell ⟨P2, 0, none⟩ (.int .u64 (lo r))).setCell ⟨P2, 1, none⟩ (.string (bg r)) = W2 at *
  have d0 := bd.c0
  have d1 := bd.c1
  have g0 := bgg.c0
  have g1 := bgg.c1
  go_wp2_with fail
  refine (hD2 _).mono ?_
  rintro e w' ⟨rfl, hb⟩
  have cz := bz.call hb
  have cf := bf.call hb
  have cp := bp.call hb
  replace hin := hin.call hb
  clear d0 d1 g0 g1 bz bd bf bgg bp hb
  go_upto_region 4 with fail
  obtain ⟨Q, hQ⟩ : ∃ Q, Q = w'.heap.size := ⟨_, rfl⟩
  have hQP : P < Q := by rw [hQ]; exact cp.lt
  have hQN : N + 1 + 1 < Q := by rw [hQ]; exact cf.lt
  have bz := (cz.alloc (natO q)).alloc (natO r2)
  have bf := (cf.alloc (natO q)).alloc (natO r2)
  have bp := (Bx.alloc cp (natO q)).alloc (natO r2)
  have bq : natB ((w'.alloc (natO q)).alloc (natO r2)) Q q := Bx.alloc (Bx.new_at _ _ _ hQ) _
  replace hin := (hin.alloc (natO q)).alloc (natO r2)
  rw [← hQ]
  clear cz cf cp hQ
  generalize (w'.alloc (natO q)).alloc (natO r2) = W3 at *
  have q0 := bq.c0
  have q1' := bq.c1
  have hl0 := bq.lt
  refine wp_region_flow 6 (by kernel_rfl) (by kernel_rfl) (fun _ _ d _ _ h => by cases d <;> exact h) ?_; simp only [List.take_succ_cons, List.take_zero, List.drop_succ_cons, List.drop_zero]; simp only [putAll, Act.put, List.setIfInBounds_toArray, List.set]; (try simp only [Nat.reduceAdd]); (try simp only [Nat.zero_add]); (repeat (first | ((with_reducible refine flow_float (v := ?_) ?_ ?_ ?_); rotate_left 1; (focus (with_reducible rfl)); (focus (intro u w1 hw hd w2; (try simp only [depH] at hd); (try simp only [ext] at hd); (try simp only [extU] at hd); (try simp only [Nat.reduceAdd] at hd); (try simp only [Nat.reduceEqDiff] at hd); (try simp only [reduceIte] at hd); (try simp only [and_true] at hd); (try simp only [true_and] at hd); go_simp; exact rfl))) | ((first | ((with_reducible refine flow_pure0 (v := ?_) ?_ ?_ ?_ ?_); rotate_left 1; (focus (with_reducible rfl)); (focus rfl)) | ((with_reducible refine flow_pureg (v := ?_) (j := ?_) (b := ?_) ?_ ?_ ?_ ?_); rotate_left 3; (focus (with_reducible rfl)); (focus (intro u w1 hw hd; (try simp only [depH] at hd); (try simp only [ext] at hd); (try simp only [extU] at hd); (try simp only [Nat.reduceAdd] at hd); (try simp only [Nat.reduceEqDiff] at hd); (try simp only [reduceIte] at hd); (try simp only [and_true] at hd); (try simp only [true_and] at hd); simp [yielded, hd]; done)))); (focus (intro u w1 hw hd; (try simp only [depH] at hd); (try simp only [ext] at hd); (try simp only [extU] at hd); (try simp only [Nat.reduceAdd] at hd); (try simp only [Nat.reduceEqDiff] at hd); (try simp only [reduceIte] at hd); (try simp only [and_true] at hd); (try simp only [true_and] at hd); have hc' := hw.cell; first | (go_simp; exact rfl) | (go_simp; go_at_call 80; ((with_reducible refine (hO _).mono ?_)); rintro e w'' ⟨rfl, hb⟩; refine ⟨?_, hb⟩; exact rfl) | (go_simp; go_at_call 99; ((with_reducible refine (hS _).mono ?_)); rintro e w'' ⟨rfl, hb⟩; refine ⟨?_, hb⟩; exact rfl)))) | ((with_reducible refine flow_skipg (j := ?_) (b := ?_) ?_ ?_ ?_); rotate_left 2; (focus (with_reducible rfl)); (focus (intro u w1 hw hd; (try simp only [depH] at hd); (try simp only [ext] at hd); (try simp only [extU] at hd); (try simp only [Nat.reduceAdd] at hd); (try simp only [Nat.reduceEqDiff] at hd); (try simp only [reduceIte] at hd); (try simp only [and_true] at hd); (try simp only [true_and] at hd); simp [yielded, hd]; done))) | ((with_reducible refine flow_alloc (t := ?_) (zs := ?_) ?_ ?_ ?_ ?_); rotate_left 2; (focus (with_reducible rfl)); (focus rfl); (focus (intro u w1; go_simp; exact rfl)))))
  (try clear hc hf h); intro u w' h ha hdi; replace h := h.ins; (try simp only [World.size_alloc] at h); (try dsimp only at ha); (repeat rw [World.size_alloc] at ha); (try simp only [allH] at ha); (try simp only [ext] at ha); (try simp only [extU] at ha); (try simp only [Nat.reduceAdd] at ha); (try simp only [Nat.reduceEqDiff] at ha); (try simp only [reduceIte] at ha); (try simp only [and_true] at ha); (try simp only [true_and] at ha); have hc := h.cell; have hf := h.frozen
  (try obtain ha := ha); (try dsimp only);  simp only [ha]; clear ha hdi 
  have cz := bz.below h.bel bz.lt
  have cf := bf.below h.bel bf.lt
  have cp := bp.below h.bel bp.lt
  have cq := bq.below h.bel bq.lt
  have q0' := cq.c0
  have q1'' := cq.c1
  have qf0 := cq.frozen 0
  have qf1 := cq.frozen 1
  replace hin := hin.call h.bel
  clear q0 q1' hl0 bz bf bp bq hc hf h
  go_upto_region 5 with fail
  have bz := (cz.other (a := ⟨Q, 0, none⟩) (by simp; omega) (.int .u64 (lo q1))).other (a := ⟨Q, 1, none⟩) (by simp; omega) (.string (bg q1))
  have bf := (cf.other (a := ⟨Q, 0, none⟩) (by simp; omega) (.int .u64 (lo q1))).other (a := ⟨Q, 1, none⟩) (by simp; omega) (.string (bg q1))
  have bp := (Bx.other cp (a := ⟨Q, 0, none⟩) (by simp; omega) (.int .u64 (lo q1))).other (a := ⟨Q, 1, none⟩) (by simp; omega) (.string (bg q1))
  have bq : natB _ Q q1 := (Bx.set cq 0 (.int .u64 (lo q1))).set 1 (.string (bg q1))
  replace hin := (hin.setCell (p := ⟨Q, 0, none⟩) (by simp; omega) (.int .u64 (lo q1))).setCell (p := ⟨Q, 1, none⟩) (by simp; omega) (.string (bg q1))
  clear cz cf cp cq q0' q1'' qf0 qf1
  generalize (w'.setCell ⟨Q, 0, none⟩ (.int .u64 (lo q1))).setCell ⟨Q, 1, none⟩ (.string (bg q1)) = W4 at *
  have z0 := bz.c0
  have z1 := bz.c1
  have z2 := bz.c2
  have p0 := bp.c0
  have p1 := bp.c1
  have q0 := bq.c0
  have q1' := bq.c1
  have hl0 := bz.lt
  have hl1 := bp.lt
  have hl2 := bq.lt
  refine wp_region_flow 7 (by kernel_rfl) (by kernel_rfl) (fun _ _ d _ _ h => by cases d <;> exact h) ?_; simp only [List.take_succ_cons, List.take_zero, List.drop_succ_cons, List.drop_zero]; simp only [putAll, Act.put, List.setIfInBounds_toArray, List.set]; (try simp only [Nat.reduceAdd]); (try simp only [Nat.zero_add]); (repeat (first | ((with_reducible refine flow_float (v := ?_) ?_ ?_ ?_); rotate_left 1; (focus (with_reducible rfl)); (focus (intro u w1 hw hd w2; (try simp only [depH] at hd); (try simp only [ext] at hd); (try simp only [extU] at hd); (try simp only [Nat.reduceAdd] at hd); (try simp only [Nat.reduceEqDiff] at hd); (try simp only [reduceIte] at hd); (try simp only [and_true] at hd); (try simp only [true_and] at hd); go_simp; exact rfl))) | ((first | ((with_reducible refine flow_pure0 (v := ?_) ?_ ?_ ?_ ?_); rotate_left 1; (focus (with_reducible rfl)); (focus rfl)) | ((with_reducible refine flow_pureg (v := ?_) (j := ?_) (b := ?_) ?_ ?_ ?_ ?_); rotate_left 3; (focus (with_reducible rfl)); (focus (intro u w1 hw hd; (try simp only [depH] at hd); (try simp only [ext] at hd); (try simp only [extU] at hd); (try simp only [Nat.reduceAdd] at hd); (try simp only [Nat.reduceEqDiff] at hd); (try simp only [reduceIte] at hd); (try simp only [and_true] at hd); (try simp only [true_and] at hd); simp [yielded, hd]; done)))); (focus (intro u w1 hw hd; (try simp only [depH] at hd); (try simp only [ext] at hd); (try simp only [extU] at hd); (try simp only [Nat.reduceAdd] at hd); (try simp only [Nat.reduceEqDiff] at hd); (try simp only [reduceIte] at hd); (try simp only [and_true] at hd); (try simp only [true_and] at hd); have hc' := hw.cell; first | (go_simp; exact rfl) | (go_simp; go_at_call 68; ((with_reducible refine (hI _).mono ?_)); rintro e w'' ⟨rfl, hb⟩; refine ⟨?_, hb⟩; exact rfl) | (go_simp; go_at_call 78; ((with_reducible refine (hF _).mono ?_)); rintro e w'' ⟨rfl, hb⟩; refine ⟨?_, hb⟩; exact rfl)))) | ((with_reducible refine flow_skipg (j := ?_) (b := ?_) ?_ ?_ ?_); rotate_left 2; (focus (with_reducible rfl)); (focus (intro u w1 hw hd; (try simp only [depH] at hd); (try simp only [ext] at hd); (try simp only [extU] at hd); (try simp only [Nat.reduceAdd] at hd); (try simp only [Nat.reduceEqDiff] at hd); (try simp only [reduceIte] at hd); (try simp only [and_true] at hd); (try simp only [true_and] at hd); simp [yielded, hd]; done))) | ((with_reducible refine flow_alloc (t := ?_) (zs := ?_) ?_ ?_ ?_ ?_); rotate_left 2; (focus (with_reducible rfl)); (focus rfl); (focus (intro u w1; go_simp; exact rfl)))))
  (try clear hc hf h); intro u w' h ha hdi; replace h := h.ins; (try simp only [World.size_alloc] at h); (try dsimp only at ha); (repeat rw [World.size_alloc] at ha); (try simp only [allH] at ha); (try simp only [ext] at ha); (try simp only [extU] at ha); (try simp only [Nat.reduceAdd] at ha); (try simp only [Nat.reduceEqDiff] at ha); (try simp only [reduceIte] at ha); (try simp only [and_true] at ha); (try simp only [true_and] at ha); have hc := h.cell; have hf := h.frozen
  (try obtain ha := ha); (try dsimp only);  simp only [ha]; clear ha hdi 
  have cf := bf.below h.bel bf.lt
  have f0 := cf.c0
  have f1 := cf.c1
  have f2 := cf.c2
  have f3 := cf.c3
  have f4 := cf.c4
  have g0 := cf.frozen 0
  have g1 := cf.frozen 1
  have g2 := cf.frozen 2
  have g3 := cf.frozen 3
  have g4 := cf.frozen 4
  replace hin := hin.call h.bel
  clear z0 z1 z2 p0 p1 q0 q1' hl0 hl1 hl2 bz bf bp bq hc hf h cf
  go_wp2_with fail
  exact bodyPost_ret (v := .agg #[.int .u64 (lo p), .string (bg p), .bool s, .int .u64 (lo q1), .string (bg q1)]) (by simp [results, Tryz.results63, go_sem, f0, f1, f2, f3, f4]) rfl
    ⟨rfl, by rw [← HN.out]; exact (((((hin.setCell (by simp; omega) _).setCell (by simp; omega) _).setCell (by simp; omega) _).setCell (by simp; omega) _).setCell (by simp; omega) _).bel⟩
end Gus
end
section
/- Sums, products and quotients of fractions. -/
namespace Gus
open Go Go.RowKit Go.Proofs
theorem natEq_runB {m n : Nat} {p : Bool} (h : decide (m = n) = p) (w : World) : (binOp .eql 50 (natV m) (natV n)).run Tryz.prog w = .ok (.bool p) w := by
  subst h; exact natEq_run m n w
theorem add_whole {a b : Rat} (ha : a.den = 1) (hb : b.den = 1) : ((a.num + b.num : Int) : Rat) = a + b := by
  rw [Rat.add_def', ha, hb]
  simp [Rat.mkRat_one]
theorem add_same {a b : Rat} (h : a.den = b.den) : mkRat (a.num + b.num) a.den = a + b := by
  rw [Rat.add_def', ← h, ← Int.add_mul, Rat.mkRat_mul_right a.den_nz]
theorem mul_whole {a b : Rat} (ha : a.den = 1) (hb : b.den = 1) : ((a.num * b.num : Int) : Rat) = a * b := by
  rw [Rat.mul_def', ha, hb]
  simp [Rat.mkRat_one]
set_option maxRecDepth 100000 in
set_option maxHeartbeats 1000000 in
theorem fadd_whole (a b : Rat) (ha : a.den = 1) (hb : b.den = 1) (hna : Wl a.num.natAbs) (hnb : Wl b.num.natAbs) (w : World) :
    Calls Tryz.prog 29 #[fracV a, fracV b] w fun e w' => e = .returned (fracV (a + b)) ∧ Below w.heap.size w w' := by
  have h1 := isWhole_any a
  have h2 := isWhole_any b
  rw [decide_eq_true ha] at h1
  rw [decide_eq_true hb] at h2
  have h3 := iadd_any a.num b.num hna hnb
  have h4 := whole_any (a.num + b.num)
  rw [add_whole ha hb] at h4
  clear ha hb hna hnb
  go_enter Tryz.func29, Tryz.ntmps29
  go_wp2_with fail
  (refine (h1 _).mono ?_; rintro e w' ⟨rfl, hb⟩; have h := (In.self _).call hb; (try simp only [World.size_alloc] at h); (try simp only [World.size_setCell] at h); clear hb; have hc := h.cell; have hf := h.frozen)
  go_wp2_with fail
  (refine (h2 _).mono ?_; rintro e w' ⟨rfl, hb⟩; replace h := In.call (by first | exact h | exact h.drew | exact h.alloc _ | exact (h.alloc _).alloc _ | exact ((h.alloc _).alloc _).alloc _) hb; clear hb hc hf; have hc := h.cell; have hf := h.frozen)
  go_wp2_with fail
  (refine (h3 _).mono ?_; rintro e w' ⟨rfl, hb⟩; replace h := In.call (by first | exact h | exact h.drew | exact h.alloc _ | exact (h.alloc _).alloc _ | exact ((h.alloc _).alloc _).alloc _) hb; clear hb hc hf; have hc := h.cell; have hf := h.frozen)
  go_wp2_with fail
  (refine (h4 _).mono ?_; rintro e w' ⟨rfl, hb⟩; replace h := In.call (by first | exact h | exact h.drew | exact h.alloc _ | exact (h.alloc _).alloc _ | exact ((h.alloc _).alloc _).alloc _) hb; clear hb hc hf; have hc := h.cell; have hf := h.frozen)
  go_wp2_with fail
  exact bodyPost_ret (v := fracV (a + b)) (by simp [results, Tryz.results29, go_sem, *]) rfl ⟨rfl, by (refine In.bel ?_; (repeat (first | (refine In.setCell ?_ (by first | omega | (simp; done) | (simp; omega)) _) | (refine In.alloc ?_ _) | (refine In.drew ?_))); (first | exact In.self _ | (refine In.out h ?_ (by first | omega | (simp; done) | (simp; omega)); (repeat (first | (refine In.setCell ?_ (by first | omega | (simp; done) | (simp; omega)) _) | (refine In.alloc ?_ _) | (refine In.drew ?_))); exact In.self _)))⟩
set_option maxRecDepth 100000 in
set_option maxHeartbeats 1000000 in
theorem fadd_same (a b : Rat) (ha : ¬ a.den = 1) (hab : a.den = b.den) (hna : Wl a.num.natAbs) (hnb : Wl b.num.natAbs) (hda : Wl a.den) (hs : Wl (a.num + b.num).natAbs) (w : World) :
    Calls Tryz.prog 29 #[fracV a, fracV b] w fun e w' => e = .returned (fracV (a + b)) ∧ Below w.heap.size w w' := by
  have h1 := isWhole_any a
  rw [decide_eq_false ha] at h1
  have hE := natEq_runB (m := a.den - 1) (n := b.den - 1) (p := true) (decide_eq_true (by rw [hab]))
  have h3 := iadd_any a.num b.num hna hnb
  have h4 := fden_any a hda
  have h5 := lowest_any (a.num + b.num) a.den a.den_nz hs hda
  rw [add_same hab] at h5
  clear ha hab hna hnb hda hs
  go_enter Tryz.func29, Tryz.ntmps29
  go_wp2_with fail
  (refine (h1 _).mono ?_; rintro e w' ⟨rfl, hb⟩; have h := (In.self _).call hb; (try simp only [World.size_alloc] at h); (try simp only [World.size_setCell] at h); clear hb; have hc := h.cell; have hf := h.frozen)
  go_wp2_with fail
  have h0 := h; have hz0 : w.heap.size < w'.heap.size := (by have := h.siz; omega); have hz1 : w.heap.size + 1 < w'.heap.size := (by have := h.siz; omega); have hz2 : w.heap.size + 1 + 1 < w'.heap.size := (by have := h.siz; omega); refine wp_region_flow 8 (by kernel_rfl) (by kernel_rfl) (fun _ _ d _ _ h => by cases d <;> exact h) ?_; simp only [List.take_succ_cons, List.take_zero, List.drop_succ_cons, List.drop_zero]; simp only [putAll, Act.put, List.setIfInBounds_toArray, List.set]; (try simp only [Nat.reduceAdd]); (try simp only [Nat.zero_add]); (repeat (first | ((with_reducible refine flow_float (v := ?_) ?_ ?_ ?_); rotate_left 1; (focus (with_reducible rfl)); (focus (intro u w1 hw hd w2; (try simp only [depH] at hd); (try simp only [ext] at hd); (try simp only [extU] at hd); (try simp only [Nat.reduceAdd] at hd); (try simp only [Nat.reduceEqDiff] at hd); (try simp only [reduceIte] at hd); (try simp only [and_true] at hd); (try simp only [true_and] at hd); go_simp; exact rfl))) | ((first | ((with_reducible refine flow_pure0 (v := ?_) ?_ ?_ ?_ ?_); rotate_left 1; (focus (with_reducible rfl)); (focus rfl)) | ((with_reducible refine flow_pureg (v := ?_) (j := ?_) (b := ?_) ?_ ?_ ?_ ?_); rotate_left 3; (focus (with_reducible rfl)); (focus (intro u w1 hw hd; (try simp only [depH] at hd); (try simp only [ext] at hd); (try simp only [extU] at hd); (try simp only [Nat.reduceAdd] at hd); (try simp only [Nat.reduceEqDiff] at hd); (try simp only [reduceIte] at hd); (try simp only [and_true] at hd); (try simp only [true_and] at hd); simp [yielded, hd]; done)))); (focus (intro u w1 hw hd; (try simp only [depH] at hd); (try simp only [ext] at hd); (try simp only [extU] at hd); (try simp only [Nat.reduceAdd] at hd); (try simp only [Nat.reduceEqDiff] at hd); (try simp only [reduceIte] at hd); (try simp only [and_true] at hd); (try simp only [true_and] at hd); have hc' := hw.cell; first | (go_simp; exact rfl) | (go_simp; go_at_call 62; ((with_reducible refine (h3 _).mono ?_)); rintro e w'' ⟨rfl, hb⟩; refine ⟨?_, hb⟩; exact rfl) | (go_simp; go_at_call 64; ((with_reducible refine (h4 _).mono ?_)); rintro e w'' ⟨rfl, hb⟩; refine ⟨?_, hb⟩; exact rfl) | (go_simp; go_at_call 63; ((with_reducible refine (h5 _).mono ?_)); rintro e w'' ⟨rfl, hb⟩; refine ⟨?_, hb⟩; exact rfl)))) | ((with_reducible refine flow_skipg (j := ?_) (b := ?_) ?_ ?_ ?_); rotate_left 2; (focus (with_reducible rfl)); (focus (intro u w1 hw hd; (try simp only [depH] at hd); (try simp only [ext] at hd); (try simp only [extU] at hd); (try simp only [Nat.reduceAdd] at hd); (try simp only [Nat.reduceEqDiff] at hd); (try simp only [reduceIte] at hd); (try simp only [and_true] at hd); (try simp only [true_and] at hd); simp [yielded, hd]; done))) | ((with_reducible refine flow_alloc (t := ?_) (zs := ?_) ?_ ?_ ?_ ?_); rotate_left 2; (focus (with_reducible rfl)); (focus rfl); (focus (intro u w1; go_simp; exact rfl))))); (try clear hc hf h); intro u w' h ha hdi; replace h := h.ins; (try simp only [World.size_alloc] at h); (try dsimp only at ha); (repeat rw [World.size_alloc] at ha); (try simp only [allH] at ha); (try simp only [ext] at ha); (try simp only [extU] at ha); (try simp only [Nat.reduceAdd] at ha); (try simp only [Nat.reduceEqDiff] at ha); (try simp only [reduceIte] at ha); (try simp only [and_true] at ha); (try simp only [true_and] at ha); have hc := h.cell; have hf := h.frozen; replace h := h.out h0 h0.siz; clear hc hf h0 hz0 hz1 hz2; have hc := h.cell; have hf := h.frozen; (try obtain ha := ha); (try dsimp only);  simp only [ha]; clear ha hdi 
  go_wp2_with fail
  exact bodyPost_ret (v := fracV (a + b)) (by simp [results, Tryz.results29, go_sem, *]) rfl ⟨rfl, by (refine In.bel ?_; (repeat (first | (refine In.setCell ?_ (by first | omega | (simp; done) | (simp; omega)) _) | (refine In.alloc ?_ _) | (refine In.drew ?_))); (first | exact In.self _ | (refine In.out h ?_ (by first | omega | (simp; done) | (simp; omega)); (repeat (first | (refine In.setCell ?_ (by first | omega | (simp; done) | (simp; omega)) _) | (refine In.alloc ?_ _) | (refine In.drew ?_))); exact In.self _)))⟩
set_option maxRecDepth 100000 in
set_option maxHeartbeats 2000000 in
theorem fadd_diff (a b : Rat) (hab : ¬ a.den = b.den) (hna : Wl a.num.natAbs) (hnb : Wl b.num.natAbs) (hda : Wl a.den) (hdb : Wl b.den) (h1s : Wl (a.num * b.den).natAbs) (h2s : Wl (b.num * a.den).natAbs)
    (hs : Wl (a.num * b.den + b.num * a.den).natAbs) (hd : Wl (a.den * b.den)) (w : World) :
    Calls Tryz.prog 29 #[fracV a, fracV b] w fun e w' => e = .returned (fracV (a + b)) ∧ Below w.heap.size w w' := by
  have hE := natEq_runB (m := a.den - 1) (n := b.den - 1) (p := false) (decide_eq_false (fun h => hab (by have := a.den_pos; have := b.den_pos; omega)))
  have hw1 := isWhole_any a
  have hw2 := isWhole_any b
  have c1 := signed_any a hda
  have c2 := signed_any b hdb
  have c3 := imul_any a.num b.den hna hdb
  have c4 := imul_any b.num a.den hnb hda
  have c5 := iadd_any (a.num * b.den) (b.num * a.den) h1s h2s
  have c6 := fden_any a hda
  have c7 := fden_any b hdb
  have c8 := mul_any a.den b.den hda hdb
  have c9 := lowest_any (a.num * b.den + b.num * a.den) (a.den * b.den) (Nat.mul_ne_zero a.den_nz b.den_nz) hs hd
  rw [← Rat.add_def'] at c9
  by_cases ha : a.den = 1
  · have hb : ¬ b.den = 1 := fun hb => hab (ha.trans hb.symm)
    rw [decide_eq_true ha] at hw1
    rw [decide_eq_false hb] at hw2
    clear ha hb hab hna hnb hda hdb h1s h2s hs hd
    go_enter Tryz.func29, Tryz.ntmps29
    go_wp2_with fail
    (refine (hw1 _).mono ?_; rintro e w' ⟨rfl, hb⟩; have h := (In.self _).call hb; (try simp only [World.size_alloc] at h); (try simp only [World.size_setCell] at h); clear hb; have hc := h.cell; have hf := h.frozen)
    go_wp2_with fail
    (refine (hw2 _).mono ?_; rintro e w' ⟨rfl, hb⟩; replace h := In.call (by first | exact h | exact h.drew | exact h.alloc _ | exact (h.alloc _).alloc _ | exact ((h.alloc _).alloc _).alloc _) hb; clear hb hc hf; have hc := h.cell; have hf := h.frozen)
    go_wp2_with fail
    have h0 := h; have hz0 : w.heap.size < w'.heap.size := (by have := h.siz; omega); have hz1 : w.heap.size + 1 < w'.heap.size := (by have := h.siz; omega); have hz2 : w.heap.size + 1 + 1 < w'.heap.size := (by have := h.siz; omega); refine wp_region_flow 17 (by kernel_rfl) (by kernel_rfl) (fun _ _ d _ _ h => by cases d <;> exact h) ?_; simp only [List.take_succ_cons, List.take_zero, List.drop_succ_cons, List.drop_zero]; simp only [putAll, Act.put, List.setIfInBounds_toArray, List.set]; (try simp only [Nat.reduceAdd]); (try simp only [Nat.zero_add]); (repeat (first | ((with_reducible refine flow_float (v := ?_) ?_ ?_ ?_); rotate_left 1; (focus (with_reducible rfl)); (focus (intro u w1 hw hd w2; (try simp only [depH] at hd); (try simp only [ext] at hd); (try simp only [extU] at hd); (try simp only [Nat.reduceAdd] at hd); (try simp only [Nat.reduceEqDiff] at hd); (try simp only [reduceIte] at hd); (try simp only [and_true] at hd); (try simp only [true_and] at hd); go_simp; exact rfl))) | ((first | ((with_reducible refine flow_pure0 (v := ?_) ?_ ?_ ?_ ?_); rotate_left 1; (focus (with_reducible rfl)); (focus rfl)) | ((with_reducible refine flow_pureg (v := ?_) (j := ?_) (b := ?_) ?_ ?_ ?_ ?_); rotate_left 3; (focus (with_reducible rfl)); (focus (intro u w1 hw hd; (try simp only [depH] at hd); (try simp only [ext] at hd); (try simp only [extU] at hd); (try simp only [Nat.reduceAdd] at hd); (try simp only [Nat.reduceEqDiff] at hd); (try simp only [reduceIte] at hd); (try simp only [and_true] at hd); (try simp only [true_and] at hd); simp [yielded, hd]; done)))); (focus (intro u w1 hw hd; (try simp only [depH] at hd); (try simp only [ext] at hd); (try simp only [extU] at hd); (try simp only [Nat.reduceAdd] at hd); (try simp only [Nat.reduceEqDiff] at hd); (try simp only [reduceIte] at hd); (try simp only [and_true] at hd); (try simp only [true_and] at hd); have hc' := hw.cell; first | (go_simp; exact rfl) | (go_simp; go_at_call 66; ((with_reducible refine (c1 _).mono ?_)); rintro e w'' ⟨rfl, hb⟩; refine ⟨?_, hb⟩; exact rfl) | (go_simp; go_at_call 66; ((with_reducible refine (c2 _).mono ?_)); rintro e w'' ⟨rfl, hb⟩; refine ⟨?_, hb⟩; exact rfl) | (go_simp; go_at_call 65; ((with_reducible refine (c3 _).mono ?_)); rintro e w'' ⟨rfl, hb⟩; refine ⟨?_, hb⟩; exact rfl) | (go_simp; go_at_call 65; ((with_reducible refine (c4 _).mono ?_)); rintro e w'' ⟨rfl, hb⟩; refine ⟨?_, hb⟩; exact rfl) | (go_simp; go_at_call 62; ((with_reducible refine (c5 _).mono ?_)); rintro e w'' ⟨rfl, hb⟩; refine ⟨?_, hb⟩; exact rfl) | (go_simp; go_at_call 64; ((with_reducible refine (c6 _).mono ?_)); rintro e w'' ⟨rfl, hb⟩; refine ⟨?_, hb⟩; exact rfl) | (go_simp; go_at_call 64; ((with_reducible refine (c7 _).mono ?_)); rintro e w'' ⟨rfl, hb⟩; refine ⟨?_, hb⟩; exact rfl) | (go_simp; go_at_call 67; ((with_reducible refine (c8 _).mono ?_)); rintro e w'' ⟨rfl, hb⟩; refine ⟨?_, hb⟩; exact rfl) | (go_simp; go_at_call 63; ((with_reducible refine (c9 _).mono ?_)); rintro e w'' ⟨rfl, hb⟩; refine ⟨?_, hb⟩; exact rfl)))) | ((with_reducible refine flow_skipg (j := ?_) (b := ?_) ?_ ?_ ?_); rotate_left 2; (focus (with_reducible rfl)); (focus (intro u w1 hw hd; (try simp only [depH] at hd); (try simp only [ext] at hd); (try simp only [extU] at hd); (try simp only [Nat.reduceAdd] at hd); (try simp only [Nat.reduceEqDiff] at hd); (try simp only [reduceIte] at hd); (try simp only [and_true] at hd); (try simp only [true_and] at hd); simp [yielded, hd]; done))) | ((with_reducible refine flow_alloc (t := ?_) (zs := ?_) ?_ ?_ ?_ ?_); rotate_left 2; (focus (with_reducible rfl)); (focus rfl); (focus (intro u w1; go_simp; exact rfl))))); (try clear hc hf h); intro u w' h ha hdi; replace h := h.ins; (try simp only [World.size_alloc] at h); (try dsimp only at ha); (repeat rw [World.size_alloc] at ha); (try simp only [allH] at ha); (try simp only [ext] at ha); (try simp only [extU] at ha); (try simp only [Nat.reduceAdd] at ha); (try simp only [Nat.reduceEqDiff] at ha); (try simp only [reduceIte] at ha); (try simp only [and_true] at ha); (try simp only [true_and] at ha); have hc := h.cell; have hf := h.frozen; replace h := h.out h0 h0.siz; clear hc hf h0 hz0 hz1 hz2; have hc := h.cell; have hf := h.frozen; (try obtain ha := ha); (try dsimp only);  simp only [ha]; clear ha hdi 
    go_wp2_with fail
    exact bodyPost_ret (v := fracV (a + b)) (by simp [results, Tryz.results29, go_sem, *]) rfl ⟨rfl, by (refine In.bel ?_; (repeat (first | (refine In.setCell ?_ (by first | omega | (simp; done) | (simp; omega)) _) | (refine In.alloc ?_ _) | (refine In.drew ?_))); (first | exact In.self _ | (refine In.out h ?_ (by first | omega | (simp; done) | (simp; omega)); (repeat (first | (refine In.setCell ?_ (by first | omega | (simp; done) | (simp; omega)) _) | (refine In.alloc ?_ _) | (refine In.drew ?_))); exact In.self _)))⟩
  · rw [decide_eq_false ha] at hw1
    clear ha hab hna hnb hda hdb h1s h2s hs hd
    go_enter Tryz.func29, Tryz.ntmps29
    go_wp2_with fail
    (refine (hw1 _).mono ?_; rintro e w' ⟨rfl, hb⟩; have h := (In.self _).call hb; (try simp only [World.size_alloc] at h); (try simp only [World.size_setCell] at h); clear hb; have hc := h.cell; have hf := h.frozen)
    go_wp2_with fail
    have h0 := h; have hz0 : w.heap.size < w'.heap.size := (by have := h.siz; omega); have hz1 : w.heap.size + 1 < w'.heap.size := (by have := h.siz; omega); have hz2 : w.heap.size + 1 + 1 < w'.heap.size := (by have := h.siz; omega); refine wp_region_flow 17 (by kernel_rfl) (by kernel_rfl) (fun _ _ d _ _ h => by cases d <;> exact h) ?_; simp only [List.take_succ_cons, List.take_zero, List.drop_succ_cons, List.drop_zero]; simp only [putAll, Act.put, List.setIfInBounds_toArray, List.set]; (try simp only [Nat.reduceAdd]); (try simp only [Nat.zero_add]); (repeat (first | ((with_reducible refine flow_float (v := ?_) ?_ ?_ ?_); rotate_left 1; (focus (with_reducible rfl)); (focus (intro u w1 hw hd w2; (try simp only [depH] at hd); (try simp only [ext] at hd); (try simp only [extU] at hd); (try simp only [Nat.reduceAdd] at hd); (try simp only [Nat.reduceEqDiff] at hd); (try simp only [reduceIte] at hd); (try simp only [and_true] at hd); (try simp only [true_and] at hd); go_simp; exact rfl))) | ((first | ((with_reducible refine flow_pure0 (v := ?_) ?_ ?_ ?_ ?_); rotate_left 1; (focus (with_reducible rfl)); (focus rfl)) | ((with_reducible refine flow_pureg (v := ?_) (j := ?_) (b := ?_) ?_ ?_ ?_ ?_); rotate_left 3; (focus (with_reducible rfl)); (focus (intro u w1 hw hd; (try simp only [depH] at hd); (try simp only [ext] at hd); (try simp only [extU] at hd); (try simp only [Nat.reduceAdd] at hd); (try simp only [Nat.reduceEqDiff] at hd); (try simp only [reduceIte] at hd); (try simp only [and_true] at hd); (try simp only [true_and] at hd); simp [yielded, hd]; done)))); (focus (intro u w1 hw hd; (try simp only [depH] at hd); (try simp only [ext] at hd); (try simp only [extU] at hd); (try simp only [Nat.reduceAdd] at hd); (try simp only [Nat.reduceEqDiff] at hd); (try simp only [reduceIte] at hd); (try simp only [and_true] at hd); (try simp only [true_and] at hd); have hc' := hw.cell; first | (go_simp; exact rfl) | (go_simp; go_at_call 66; ((with_reducible refine (c1 _).mono ?_)); rintro e w'' ⟨rfl, hb⟩; refine ⟨?_, hb⟩; exact rfl) | (go_simp; go_at_call 66; ((with_reducible refine (c2 _).mono ?_)); rintro e w'' ⟨rfl, hb⟩; refine ⟨?_, hb⟩; exact rfl) | (go_simp; go_at_call 65; ((with_reducible refine (c3 _).mono ?_)); rintro e w'' ⟨rfl, hb⟩; refine ⟨?_, hb⟩; exact rfl) | (go_simp; go_at_call 65; ((with_reducible refine (c4 _).mono ?_)); rintro e w'' ⟨rfl, hb⟩; refine ⟨?_, hb⟩; exact rfl) | (go_simp; go_at_call 62; ((with_reducible refine (c5 _).mono ?_)); rintro e w'' ⟨rfl, hb⟩; refine ⟨?_, hb⟩; exact rfl) | (go_simp; go_at_call 64; ((with_reducible refine (c6 _).mono ?_)); rintro e w'' ⟨rfl, hb⟩; refine ⟨?_, hb⟩; exact rfl) | (go_simp; go_at_call 64; ((with_reducible refine (c7 _).mono ?_)); rintro e w'' ⟨rfl, hb⟩; refine ⟨?_, hb⟩; exact rfl) | (go_simp; go_at_call 67; ((with_reducible refine (c8 _).mono ?_)); rintro e w'' ⟨rfl, hb⟩; refine ⟨?_, hb⟩; exact rfl) | (go_simp; go_at_call 63; ((with_reducible refine (c9 _).mono ?_)); rintro e w'' ⟨rfl, hb⟩; refine ⟨?_, hb⟩; exact rfl)))) | ((with_reducible refine flow_skipg (j := ?_) (b := ?_) ?_ ?_ ?_); rotate_left 2; (focus (with_reducible rfl)); (focus (intro u w1 hw hd; (try simp only [depH] at hd); (try simp only [ext] at hd); (try simp only [extU] at hd); (try simp only [Nat.reduceAdd] at hd); (try simp only [Nat.reduceEqDiff] at hd); (try simp only [reduceIte] at hd); (try simp only [and_true] at hd); (try simp only [true_and] at hd); simp [yielded, hd]; done))) | ((with_reducible refine flow_alloc (t := ?_) (zs := ?_) ?_ ?_ ?_ ?_); rotate_left 2; (focus (with_reducible rfl)); (focus rfl); (focus (intro u w1; go_simp; exact rfl))))); (try clear hc hf h); intro u w' h ha hdi; replace h := h.ins; (try simp only [World.size_alloc] at h); (try dsimp only at ha); (repeat rw [World.size_alloc] at ha); (try simp only [allH] at ha); (try simp only [ext] at ha); (try simp only [extU] at ha); (try simp only [Nat.reduceAdd] at ha); (try simp only [Nat.reduceEqDiff] at ha); (try simp only [reduceIte] at ha); (try simp only [and_true] at ha); (try simp only [true_and] at ha); have hc := h.cell; have hf := h.frozen; replace h := h.out h0 h0.siz; clear hc hf h0 hz0 hz1 hz2; have hc := h.cell; have hf := h.frozen; (try obtain ha := ha); (try dsimp only);  simp only [ha]; clear ha hdi 
    go_wp2_with fail
    exact bodyPost_ret (v := fracV (a + b)) (by simp [results, Tryz.results29, go_sem, *]) rfl ⟨rfl, by (refine In.bel ?_; (repeat (first | (refine In.setCell ?_ (by first | omega | (simp; done) | (simp; omega)) _) | (refine In.alloc ?_ _) | (refine In.drew ?_))); (first | exact In.self _ | (refine In.out h ?_ (by first | omega | (simp; done) | (simp; omega)); (repeat (first | (refine In.setCell ?_ (by first | omega | (simp; done) | (simp; omega)) _) | (refine In.alloc ?_ _) | (refine In.drew ?_))); exact In.self _)))⟩
/-- fracs.Add -/
theorem fadd_any {i j : Nat} (a b : Rat) (ha : SzK i a) (hb : SzK j b) (hij : i + j + 1 < 17592186044416) (w : World) :
    Calls Tryz.prog 29 #[fracV a, fracV b] w fun e w' => e = .returned (fracV (a + b)) ∧ Below w.heap.size w w' := by
  have hna := ha.num (by omega)
  have hnb := hb.num (by omega)
  have hda := ha.dn (by omega)
  have hdb := hb.dn (by omega)
  by_cases hab : a.den = b.den
  · by_cases h1 : a.den = 1
    · exact fadd_whole a b h1 (by rw [← hab]; exact h1) hna hnb w
    · refine fadd_same a b h1 hab hna hnb hda ?_ w
      refine Wl_of (i := i + j + 1) ?_ hij
      have h3 := Int.natAbs_add_le a.num b.num
      have h1 : 2 ^ i ≤ 2 ^ (i + j) := Nat.pow_le_pow_right (by decide) (by omega)
      have h2 : 2 ^ j ≤ 2 ^ (i + j) := Nat.pow_le_pow_right (by decide) (by omega)
      have := ha.1; have := hb.1
      rw [Nat.pow_succ]; omega
  · have h1 := mul_lt_pow ha.1 hb.2
    have h2 := mul_lt_pow hb.1 ha.2
    have h3 := Int.natAbs_add_le (a.num * b.den) (b.num * a.den)
    have e1 : (a.num * b.den).natAbs = a.num.natAbs * b.den := by rw [Int.natAbs_mul, Int.natAbs_natCast]
    have e2 : (b.num * a.den).natAbs = b.num.natAbs * a.den := by rw [Int.natAbs_mul, Int.natAbs_natCast]
    rw [Nat.add_comm j i] at h2
    exact fadd_diff a b hab hna hnb hda hdb (Wl_of (by rw [e1]; exact h1) (by omega)) (Wl_of (by rw [e2]; exact h2) (by omega)) (Wl_of (i := i + j + 1) (by rw [Nat.pow_succ]; omega) hij) (Wl_of (mul_lt_pow ha.2 hb.2) (by omega)) w
end Gus
end
