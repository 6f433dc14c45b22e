/- Proved: whatever the symmetric matrix, the right-hand side and the start, gussetlaw19.CgsSteps returns true, and the arguments read as before. Conditions: the three listed tables hold what the program's text lays (the card ties them). -/
import Derived.Test.YtjbclomfocnplaaGreatDoorFlowCQ
import Derived.Test.YtjbclomfocnplaaGreatDoorCgoQ
section
/- gussetlaw19.CgsSteps, where the run breaks down. -/
namespace Gus
open Go Go.RowKit Go.Proofs
set_option maxRecDepth 100000 in
set_option maxHeartbeats 16000000 in
theorem steps_road (w : World) (N : Nat) (hN : N < 256) (la : Option Addr) (lc : Nat) (l : List TQ) (hl : TAt w la l) (hok : TOk l) (hL : l.length ≤ maxLen) (ba sa : Option Addr) (bc sc : Nat) (qb qs : List (Int × Int)) (hqb : QAt w ba qb) (hqs : QAt w sa qs) (hob : QOk qb) (hos : QOk qs) (hLb : qb.length ≤ maxLen) (hLs : qs.length ≤ maxLen) (hfin : ¬ ∃ j, Fin (N % 6) (symA (N % 6) l) (startC (N % 6) (symA (N % 6) l) (mEl qb) (mEl qs)) j) :
    Calls Tryz.prog 3 #[.agg #[.int .u8 N, .slice la l.length lc], .slice ba qb.length bc, .slice sa qs.length sc] w fun e w' => e = .returned (.bool true) ∧ Below w.heap.size w w' := by
  ((have cz := cgworks_any); (have hin := In.self w); (obtain ⟨sm, hsm⟩ : ∃ sm, sm = smallT l [qb, qs] := ⟨_, rfl⟩); (obtain ⟨n, hn⟩ : ∃ n, n = N % (5 + 1) := ⟨_, rfl⟩); (have hn5 : n ≤ 5 := by omega); (have HN := Lib.hid hn); (clear hn); (go_enter Tryz.func3, Tryz.ntmps3); (go_upto_region 1 with fail); (skip); (((obtain ⟨S0, hS0⟩ : ∃ z, z = w.heap.size := ⟨_, rfl⟩); (have bS0 := Bx.new_at w #[.int .u8 N, .slice la l.length lc] 24 hS0); (replace hin := hin.alloc (.cells #[.int .u8 N, .slice la l.length lc] 24)); (replace hl := hl.call ((Below.refl _ _).alloc (Nat.le_refl _) (.cells #[.int .u8 N, .slice la l.length lc] 24))); (replace hqb := hqb.call ((Below.refl _ _).alloc (Nat.le_refl _) (.cells #[.int .u8 N, .slice la l.length lc] 24))); (replace hqs := hqs.call ((Below.refl _ _).alloc (Nat.le_refl _) (.cells #[.int .u8 N, .slice la l.length lc] 24))); (rw [← hS0]); (clear hS0); (generalize w.alloc (.cells #[.int .u8 N, .slice la l.length lc] 24) = W1 at *))); (((have s0 := bS0.c0); (have s1 := bS0.c1); (have sl := bS0.lt))); (go_wp2_with fail); (((obtain ⟨V, hV⟩ : ∃ z, z = W1.heap.size := ⟨_, rfl⟩); (have bV := Bx.new_at W1 #[.slice ba qb.length bc, .slice sa qs.length sc] 25 hV); (clear s0 s1 sl); (replace hin := hin.alloc (.cells #[.slice ba qb.length bc, .slice sa qs.length sc] 25)); (replace bS0 := bS0.alloc (.cells #[.slice ba qb.length bc, .slice sa qs.length sc] 25)); (replace hl := hl.call ((Below.refl _ _).alloc (Nat.le_refl _) (.cells #[.slice ba qb.length bc, .slice sa qs.length sc] 25))); (replace hqb := hqb.call ((Below.refl _ _).alloc (Nat.le_refl _) (.cells #[.slice ba qb.length bc, .slice sa qs.length sc] 25))); (replace hqs := hqs.call ((Below.refl _ _).alloc (Nat.le_refl _) (.cells #[.slice ba qb.length bc, .slice sa qs.length sc] 25))); (rw [← hV]); (clear hV); (generalize W1.alloc (.cells #[.slice ba qb.length bc, .slice sa qs.length sc] 25) = W2 at *))); (have c0 := small_any W2 N la lc l (some ⟨V, 0, none⟩) 2 [qb, qs] hl (qs_two bV hqb hqs) hL (by simp) (fun q hq => by simp only [List.mem_cons, List.not_mem_nil, or_false] at hq; rcases hq with rfl | rfl; exact hLb; exact hLs)); (rw [← hsm, show [qb, qs].length = 2 from rfl] at c0); (have HSM := Lib.hid hsm); (clear hsm); (((((with_reducible refine (c0).mono ?_))); (rintro e wc3 ⟨rfl, hb⟩); (clear c0 bV); (replace hin := hin.call hb); (replace hl := hl.call hb); (replace hqb := hqb.call hb); (replace hqs := hqs.call hb); (replace bS0 := bS0.call hb); (clear hb))))
  skip
  rcases sm with _ | _
  · ((go_wp2_with fail); (((with_reducible refine (cz _).mono ?_))); (rintro e wc4 ⟨rfl, hb⟩); (skip); (replace hin := hin.call hb); (replace hl := hl.call hb); (replace hqb := hqb.call hb); (replace hqs := hqs.call hb); (replace bS0 := bS0.call hb); (clear hb))
    go_wp2_with fail
    go_ret
    exact ⟨rfl, hin.bel⟩
  · skip
    ((obtain ⟨h30, hln, hbn, hsn, h12, h12'⟩ := small_split HSM.out.symm); (have hCM : CM n 332 332 (symA n l) := symA_cm hln hok h30); (have hsy := symA_sym n l); (have hRS := sys_runS (n := n) (by omega) hCM hbn hob hsn hos); (have c1 := ssymm_any (j := 10) wc3 N n 5 la lc l hl hok (by omega) hN (by decide) HN.out (fun t ht => (qOf_ss (List.all_eq_true.1 hln t ht) (hok t ht).2.2.2.2.1).szk (Nat.le_refl _) (Nat.le_refl _)) (by decide) (by decide)); (rw [show ((5 : Nat) : Int) = 5 from rfl] at c1); (((have s0 := bS0.c0); (have s1 := bS0.c1); (have sl := bS0.lt))); (go_wp2_with fail); (((with_reducible refine c1.mono ?_))); (rintro e wa ⟨⟨sv, rfl, hS⟩, hb⟩); (clear s0 s1 sl c1 bS0 hl); (replace hin := hin.call hb); (replace hqb := hqb.call hb); (replace hqs := hqs.call hb); (clear hb); (replace hS : SpM wa sv n n (symA n l) := hS.m); (obtain ⟨ra, rk, rfl⟩ := hS.shape); (go_upto_region 4 with fail); (((obtain ⟨Sb, hSb⟩ : ∃ z, z = wa.heap.size := ⟨_, rfl⟩); (have bSb := Bx.new_at wa #[.int .i64 n, .int .i64 n, .slice ra n rk] 30 hSb); (replace hin := hin.alloc (.cells #[.int .i64 n, .int .i64 n, .slice ra n rk] 30)); (replace hqb := hqb.call ((Below.refl _ _).alloc (Nat.le_refl _) (.cells #[.int .i64 n, .int .i64 n, .slice ra n rk] 30))); (replace hqs := hqs.call ((Below.refl _ _).alloc (Nat.le_refl _) (.cells #[.int .i64 n, .int .i64 n, .slice ra n rk] 30))); (replace hS := hS.call ((Below.refl _ _).alloc (Nat.le_refl _) (.cells #[.int .i64 n, .int .i64 n, .slice ra n rk] 30))); (rw [← hSb]); (clear hSb); (generalize wa.alloc (.cells #[.int .i64 n, .int .i64 n, .slice ra n rk] 30) = wS at *))); (have cv1 := fun W (h : In wS.heap.size wS W) => lvec_any W ba bc n qb (hqb.call h.bel) hob (by omega) (by omega)); (have cv2 := fun W (h : In wS.heap.size wS W) => lvec_any W sa sc n qs (hqs.call h.bel) hos (by omega) (by omega)); (((have s0 := bSb.c0); (have s1 := bSb.c1); (have s2 := bSb.c2); (have sl := bSb.lt))))
    have h := In.self wS; have hc := h.cell; have hf := h.frozen; refine wp_region_flow 8 (by kernel_rfl) (by kernel_rfl) (fun _ _ d _ _ h => by cases d <;> exact h) ?_; simp only [List.take_succ_cons, List.take_zero, List.drop_succ_cons, List.drop_zero]; simp only [putAll, Act.put, List.setIfInBounds_toArray, List.set]; (try simp only [Nat.reduceAdd]); (try simp only [Nat.zero_add]); (repeat (first | ((with_reducible refine flow_float (v := ?_) ?_ ?_ ?_); rotate_left 1; (focus (with_reducible rfl)); (focus (intro u w1 hw hd w2; (try simp only [depH] at hd); (try simp only [ext] at hd); (try simp only [extU] at hd); (try simp only [Nat.reduceAdd] at hd); (try simp only [Nat.reduceEqDiff] at hd); (try simp only [reduceIte] at hd); (try simp only [and_true] at hd); (try simp only [true_and] at hd); go_simp; exact rfl))) | ((first | ((with_reducible refine flow_pure0 (v := ?_) ?_ ?_ ?_ ?_); rotate_left 1; (focus (with_reducible rfl)); (focus rfl)) | ((with_reducible refine flow_pureg (v := ?_) (j := ?_) (b := ?_) ?_ ?_ ?_ ?_); rotate_left 3; (focus (with_reducible rfl)); (focus (intro u w1 hw hd; (try simp only [depH] at hd); (try simp only [ext] at hd); (try simp only [extU] at hd); (try simp only [Nat.reduceAdd] at hd); (try simp only [Nat.reduceEqDiff] at hd); (try simp only [reduceIte] at hd); (try simp only [and_true] at hd); (try simp only [true_and] at hd); simp [yielded, hd]; done)))); (focus (intro u w1 hw hd; (try simp only [depH] at hd); (try simp only [ext] at hd); (try simp only [extU] at hd); (try simp only [Nat.reduceAdd] at hd); (try simp only [Nat.reduceEqDiff] at hd); (try simp only [reduceIte] at hd); (try simp only [and_true] at hd); (try simp only [true_and] at hd); have hc' := hw.cell; go_simp; exact rfl))) | ((with_reducible refine flow_skipg (j := ?_) (b := ?_) ?_ ?_ ?_); rotate_left 2; (focus (with_reducible rfl)); (focus (intro u w1 hw hd; (try simp only [depH] at hd); (try simp only [ext] at hd); (try simp only [extU] at hd); (try simp only [Nat.reduceAdd] at hd); (try simp only [Nat.reduceEqDiff] at hd); (try simp only [reduceIte] at hd); (try simp only [and_true] at hd); (try simp only [true_and] at hd); simp [yielded, hd]; done))) | ((with_reducible refine flow_alloc (t := ?_) (zs := ?_) ?_ ?_ ?_ ?_); rotate_left 2; (focus (with_reducible rfl)); (focus rfl); (focus (intro u w1; go_simp; exact rfl)))))
    (with_reducible refine flow_rel (Vi := VcQ (vl n (mEl qb))) false ?_ ?_ ?_ ?_ ?_ ?_); (focus rfl); (focus rfl); (focus exact stable_vcq _); (focus exact placed_false _); (focus (intro u w1 hw hd; (try simp only [depH] at hd); (try simp only [ext] at hd); (try simp only [extU] at hd); (try simp only [Nat.reduceAdd] at hd); (try simp only [Nat.reduceEqDiff] at hd); (try simp only [reduceIte] at hd); (try simp only [and_true] at hd); (try simp only [true_and] at hd); have hc' := hw.cell; go_simp; (try simp only [okUpon]); go_at_call 15; ((with_reducible refine (cv1 _ hw.ins).mono ?_)); rintro e w'' ⟨⟨v, rfl, hv⟩, hb⟩; exact ⟨v, rfl, ⟨hv, fun h => by cases h⟩, hb⟩))
    (repeat (first | ((with_reducible refine flow_float (v := ?_) ?_ ?_ ?_); rotate_left 1; (focus (with_reducible rfl)); (focus (intro u w1 hw hd w2; (try simp only [depH] at hd); (try simp only [ext] at hd); (try simp only [extU] at hd); (try simp only [Nat.reduceAdd] at hd); (try simp only [Nat.reduceEqDiff] at hd); (try simp only [reduceIte] at hd); (try simp only [and_true] at hd); (try simp only [true_and] at hd); go_simp; exact rfl))) | ((first | ((with_reducible refine flow_pure0 (v := ?_) ?_ ?_ ?_ ?_); rotate_left 1; (focus (with_reducible rfl)); (focus rfl)) | ((with_reducible refine flow_pureg (v := ?_) (j := ?_) (b := ?_) ?_ ?_ ?_ ?_); rotate_left 3; (focus (with_reducible rfl)); (focus (intro u w1 hw hd; (try simp only [depH] at hd); (try simp only [ext] at hd); (try simp only [extU] at hd); (try simp only [Nat.reduceAdd] at hd); (try simp only [Nat.reduceEqDiff] at hd); (try simp only [reduceIte] at hd); (try simp only [and_true] at hd); (try simp only [true_and] at hd); simp [yielded, hd]; done)))); (focus (intro u w1 hw hd; (try simp only [depH] at hd); (try simp only [ext] at hd); (try simp only [extU] at hd); (try simp only [Nat.reduceAdd] at hd); (try simp only [Nat.reduceEqDiff] at hd); (try simp only [reduceIte] at hd); (try simp only [and_true] at hd); (try simp only [true_and] at hd); have hc' := hw.cell; go_simp; exact rfl))) | ((with_reducible refine flow_skipg (j := ?_) (b := ?_) ?_ ?_ ?_); rotate_left 2; (focus (with_reducible rfl)); (focus (intro u w1 hw hd; (try simp only [depH] at hd); (try simp only [ext] at hd); (try simp only [extU] at hd); (try simp only [Nat.reduceAdd] at hd); (try simp only [Nat.reduceEqDiff] at hd); (try simp only [reduceIte] at hd); (try simp only [and_true] at hd); (try simp only [true_and] at hd); simp [yielded, hd]; done))) | ((with_reducible refine flow_alloc (t := ?_) (zs := ?_) ?_ ?_ ?_ ?_); rotate_left 2; (focus (with_reducible rfl)); (focus rfl); (focus (intro u w1; go_simp; exact rfl)))))
    (with_reducible refine flow_rel (Vi := VcQ (vl n (mEl qs))) false ?_ ?_ ?_ ?_ ?_ ?_); (focus rfl); (focus rfl); (focus exact stable_vcq _); (focus exact placed_false _); (focus (intro u w1 hw hd; (try simp only [depH] at hd); (try simp only [ext] at hd); (try simp only [extU] at hd); (try simp only [Nat.reduceAdd] at hd); (try simp only [Nat.reduceEqDiff] at hd); (try simp only [reduceIte] at hd); (try simp only [and_true] at hd); (try simp only [true_and] at hd); have hc' := hw.cell; go_simp; (try simp only [okUpon]); go_at_call 15; ((with_reducible refine (cv2 _ hw.ins).mono ?_)); rintro e w'' ⟨⟨v, rfl, hv⟩, hb⟩; exact ⟨v, rfl, ⟨hv, fun h => by cases h⟩, hb⟩))
    (((try clear hc hf h); intro u w' h ha hdi; replace h := h.ins; (try simp only [World.size_alloc] at h); (try dsimp only at ha); (repeat rw [World.size_alloc] at ha); (try simp only [allH] at ha); (try simp only [ext] at ha); (try simp only [extU] at ha); (try simp only [Nat.reduceAdd] at ha); (try simp only [Nat.reduceEqDiff] at ha); (try simp only [reduceIte] at ha); (try simp only [and_true] at ha); (try simp only [true_and] at ha); have hc := h.cell; have hf := h.frozen; have hb := h.bel; clear hdi hc hf; clear s0 s1 s2 sl hqb hqs cv1 cv2; replace hin := hin.call hb; replace hS := hS.call hb; replace bSb := bSb.call hb; clear hb h; rename World => wv); (obtain ⟨⟨⟨⟨⟨⟨⟨h0, h1⟩, h2⟩, hvb⟩, h4⟩, h5⟩, h6⟩, hvx⟩ := ha); (replace hvb := hvb.v); (replace hvx := hvx.v); (obtain ⟨va, vk, hvbe⟩ := hvb.shape); (obtain ⟨xa, xk, hvxe⟩ := hvx.shape); (rw [vl_length] at hvbe hvxe); (rw [hvbe] at hvb); (rw [hvxe] at hvx); ((try dsimp only)); (simp only [hvbe, hvxe]); (clear h0 h1 h2 h4 h5 h6 hvbe hvxe); (obtain ⟨s0, hs0⟩ : ∃ s, s = startC n (symA n l) (mEl qb) (mEl qs) := ⟨_, rfl⟩); (have hs0x : s0.x = mEl qs := by rw [hs0]; rfl); (have hs0r : ∀ i, i < n → s0.r i = mEl qb i - mv n (symA n l) s0.x i := fun i _ => by rw [hs0]; rfl); (have hs0p : s0.p = s0.r := by rw [hs0]; rfl); (rw [← hs0] at hRS); ((try simp only [← hs0] at h5)); (have HS0 := Lib.hid hs0); (clear hs0); (have c3 := from_vl wv _ _ _ hS hsy hvb (by rw [hs0x]; exact hvx) hs0r hs0p hRS); (((have y0 := bSb.c0); (have y1 := bSb.c1); (have y2 := bSb.c2); (have yl := bSb.lt))); (((go_wp2_with fail); (((with_reducible refine (c3).mono ?_))); (rintro e wr ⟨⟨v, rfl, hP⟩, hb⟩); (clear y0 y1 y2 yl c3); (replace hin := hin.call hb); (replace hS := hS.call hb); (replace hvb := hvb.call hb); (replace hvx := hvx.call hb); (replace bSb := bSb.call hb); (clear hb))))
    have HNN : Hid (n * n ≤ 5 * 5) := Lib.hid (Nat.mul_le_mul hn5 hn5)
    rw [← hs0x] at hvx
    obtain ⟨hv, hhv⟩ : ∃ q : Rat, q = ((1 : Int) : Rat) / ((2 : Int) : Rat) := ⟨_, rfl⟩
    have HV : Hid (hv = 1 / 2) := Lib.hid (by rw [hhv]; decide +kernel)
    have c2 := fracOf_any 1 2 (by decide) (by decide) (by decide) (by decide) (by decide)
    rw [← hhv] at c2
    obtain ⟨H1, H2, H3, H4, H5, hH, hH'⟩ : ∃ A1 A2 A3 A4 A5, fracV hv = .agg #[.int .u64 A1, .string A2, .bool A3, .int .u64 A4, .string A5] ∧ fcs hv = [.int .u64 A1, .string A2, .bool A3, .int .u64 A4, .string A5] := ⟨_, _, _, _, _, rfl, rfl⟩
    rw [hH] at c2
    have HH := Lib.hid hH
    clear hhv hH hH'
    skip
    have hF : ¬ ∃ j, Fin n (symA n l) s0 j := by rw [HS0.out, HN.out]; exact hfin
    obtain rfl : v = .tuple #[.slice none 0 0, .int .i64 11] := by
      rcases hP with ⟨j, d, h, _⟩ | ⟨_, h⟩
      · exact absurd ⟨j, h⟩ hF
      · exact h
    clear hP
    have HRB := In.self wr
    skip
    skip
    have c6 := left_vl wr _ _ _ hS hsy hvb hvx (hRS.one (k := 0) (Nat.zero_le _))
    ((have y0 := bSb.c0); (have y1 := bSb.c1); (have y2 := bSb.c2); (have yl := bSb.lt))
    ((go_wp2_with fail); (((with_reducible refine (c6).mono ?_))); (rintro e wc7 ⟨⟨rv, rfl, hr⟩, hb⟩); (clear y0 y1 y2 yl c6); (replace hin := hin.call hb); (replace HRB := HRB.call hb); (replace hS := hS.call hb); (replace hvb := hvb.call hb); (replace hvx := hvx.call hb); (replace bSb := bSb.call hb); (clear hb))
    obtain ⟨ra', rk', he⟩ := hr.shape
    rw [vl_length] at he
    subst he
    have c7 := lapply_vl (j := 150000000000) (l := 150000000000) wc7 _ _ _ _ hS hvx (by omega) hRS.hA.szk ((hRS.hs 0 (Nat.zero_le _)).x.szk (Nat.le_refl _) (Nat.le_refl _)) (by decide) (by decide) (by have := HNN.out; omega)
    ((have y0 := bSb.c0); (have y1 := bSb.c1); (have y2 := bSb.c2); (have yl := bSb.lt))
    ((go_wp2_with fail); (((with_reducible refine (c7).mono ?_))); (rintro e wc8 ⟨⟨av, rfl, hav⟩, hb⟩); (clear y0 y1 y2 yl c7); (replace hin := hin.call hb); (replace HRB := HRB.call hb); (replace hS := hS.call hb); (replace hvb := hvb.call hb); (replace hvx := hvx.call hb); (replace hr := hr.call hb); (replace bSb := bSb.call hb); (clear hb))
    obtain ⟨aa', ak', he⟩ := hav.shape
    rw [vl_length] at he
    subst he
    have c8 := vsub_vl (j := 150000000000) (l := 450000000000) wc8 _ _ _ _ hvb hav (by omega) (hRS.hb.szk (Nat.le_refl _) (Nat.le_refl _)) ((hRS.mv3 (hRS.hs 0 (Nat.zero_le _)).x).szk (Nat.le_refl _) (Nat.le_refl _)) (by omega)
    ((go_wp2_with fail); (((with_reducible refine (c8).mono ?_))); (rintro e wc9 ⟨⟨wv', rfl, hw'⟩, hb⟩); (clear c8 hav); (replace hin := hin.call hb); (replace HRB := HRB.call hb); (replace hS := hS.call hb); (replace hvb := hvb.call hb); (replace hvx := hvx.call hb); (replace hr := hr.call hb); (replace bSb := bSb.call hb); (clear hb))
    obtain ⟨wa', wk', he⟩ := hw'.shape
    rw [vl_length] at he
    subst he
    have c9 := vsame_any wc9 _ _ _ _ hr hw' (by rw [vl_length]; omega)
    rw [decide_eq_true rfl] at c9
    ((have y0 := bSb.c0); (have y1 := bSb.c1); (have y2 := bSb.c2); (have yl := bSb.lt))
    skip
    ((go_wp2_with fail); (((with_reducible refine (c9).mono ?_))); (rintro e wb ⟨rfl, hb⟩); (clear y0 y1 y2 yl c9 hw'); (replace hin := hin.call hb); (replace HRB := HRB.call hb); (replace hS := hS.call hb); (replace hvb := hvb.call hb); (replace hvx := hvx.call hb); (replace hr := hr.call hb); (replace bSb := bSb.call hb); (clear hb))
    replace hr : VecAt wb (.slice ra' n rk') (vl n s0.r) := by
      rw [show vl n s0.r = vl n fun i => mEl qb i - mv n (symA n l) s0.x i from vl_congr hs0r]; exact hr
    have hp : VecAt wb (.slice ra' n rk') (vl n s0.p) := by rw [hs0p]; exact hr
    go_wp2_with fail
    go_loopw [12, 16, 17, 18] (fun v12 v16 v17 v18 wq => ∃ (k : Nat) (rv pv xv : Value), k ≤ n + 1 ∧ v12 = rv ∧ v16 = pv ∧ v17 = xv ∧ v18 = .int .i64 k ∧ In wb.heap.size wb wq ∧ VecAt wq xv (vl n (s0.at n (symA n l) k).x) ∧ VecAt wq rv (vl n (s0.at n (symA n l) k).r) ∧ VecAt wq pv (vl n (s0.at n (symA n l) k).p) ∧ Hid (∀ i, i < k → dt n (s0.at n (symA n l) i).r (s0.at n (symA n l) i).r ≠ 0 ∧ dt n (s0.at n (symA n l) i).p (mv n (symA n l) (s0.at n (symA n l) i).p) ≠ 0)) (fun _ _ _ v18 _ => n + 2 - (RowKit.intOf v18).toNat)
    case atStart => exact ⟨0, _, _, _, Nat.zero_le _, rfl, rfl, rfl, rfl, In.self _, hvx, hr, hp, Lib.hid fun i hi => absurd hi (Nat.not_lt_zero _)⟩
    case round =>
      rename World => wq
      obtain ⟨k, rv, pv, xv, hk, hrv, hpv, hxv, rfl, hq, hxk, hrk, hpk, HK⟩ := hrel
      obtain ⟨rra, rrk, he⟩ := hrk.shape
      rw [vl_length] at he
      subst he
      obtain ⟨ppa, ppk, he⟩ := hpk.shape
      rw [vl_length] at he
      subst he
      obtain ⟨xxa, xxk, he⟩ := hxk.shape
      rw [vl_length] at he
      subst he
      subst hrv
      subst hpv
      subst hxv
      by_cases hkn' : k ≤ n
      · have hrr : dt n (s0.at n (symA n l) k).r (s0.at n (symA n l) k).r ≠ 0 := fun h => hF ⟨k, hkn', h, HK.out⟩
        have hkn : k ≤ n := hkn'
        have hkI : (k : Int) ≤ (n : Int) := by omega
        have sz := hRS.hs k hkn
        have hSq := hS.call hq.bel
        have hvq := hvb.call hq.bel
        have bq := bSb.call hq.bel
        have hr0 := In.self wq
        have hqr := hq
        have hxkq := hxk
        have hrkq := hrk
        have e14 := vmax_any (j := 150000000000) wq _ (vl n (s0.at n (symA n l) k).r) hrk (by decide) (fun q hq => by
          obtain ⟨i, hi, rfl⟩ := List.mem_map.1 hq
          exact (sz.r.szk (Nat.le_refl _) (Nat.le_refl _)) i (List.mem_range.1 hi)) (by decide) (by rw [vl_length]; omega)
        obtain ⟨z, hz⟩ : ∃ z, z = decide (dt n (s0.at n (symA n l) k).r (s0.at n (symA n l) k).r = 0) := ⟨_, rfl⟩
        have hcmp : ∀ W, (binOp .eql 52 (fracV (maxA (vl n (s0.at n (symA n l) k).r))) (fracV 0)).run Tryz.prog W = .ok (.bool z) W := fun W => by
          rw [fracEq_run, hz, decide_eq_decide.2 (vmax_zero n _)]
        have HZ := Lib.hid hz
        clear hz
        obtain ⟨mz, hmz⟩ : ∃ m, m = maxA (vl n (s0.at n (symA n l) k).r) := ⟨_, rfl⟩
        rw [← hmz] at e14 hcmp
        obtain ⟨Z1, Z2, Z3, Z4, Z5, hZ, hZ'⟩ : ∃ A1 A2 A3 A4 A5, fracV mz = .agg #[.int .u64 A1, .string A2, .bool A3, .int .u64 A4, .string A5] ∧ fcs mz = [.int .u64 A1, .string A2, .bool A3, .int .u64 A4, .string A5] := ⟨_, _, _, _, _, rfl, rfl⟩
        rw [hZ] at e14 hcmp
        replace hcmp : ∀ W, (binOp .eql 52 (.agg #[.int .u64 Z1, .string Z2, .bool Z3, .int .u64 Z4, .string Z5]) (.agg #[.int .u64 0, .string ⟨#[]⟩, .bool false, .int .u64 0, .string ⟨#[]⟩])).run Tryz.prog W = .ok (.bool z) W := hcmp
        clear hmz hZ hZ'
        skip
        ((have y0 := bq.c0); (have y1 := bq.c1); (have y2 := bq.c2); (have yl := bq.lt))
        ((go_wp2_with fail); (((with_reducible refine (e14).mono ?_))); (rintro e wc1 ⟨rfl, hb⟩); (clear y0 y1 y2 yl e14); (replace hr0 := hr0.call hb); (replace hqr := hqr.call hb); (replace hSq := hSq.call hb); (replace hvq := hvq.call hb); (replace hxk := hxk.call hb); (replace hrk := hrk.call hb); (replace hpk := hpk.call hb); (replace bq := bq.call hb); (clear hb))
        have e15 := lapply_vl (j := 150000000000) (l := 150000000000) wc1 _ _ _ _ hSq hpk (by omega) hRS.hA.szk (sz.p.szk (Nat.le_refl _) (Nat.le_refl _)) (by decide) (by decide) (by have := HNN.out; omega)
        ((have y0 := bq.c0); (have y1 := bq.c1); (have y2 := bq.c2); (have yl := bq.lt))
        ((go_wp2_with fail); (((with_reducible refine (e15).mono ?_))); (rintro e wc2 ⟨⟨spv, rfl, hsp⟩, hb⟩); (clear y0 y1 y2 yl e15 hcmp); (replace hr0 := hr0.call hb); (replace hqr := hqr.call hb); (replace hSq := hSq.call hb); (replace hvq := hvq.call hb); (replace hxk := hxk.call hb); (replace hrk := hrk.call hb); (replace hpk := hpk.call hb); (replace bq := bq.call hb); (clear hb))
        obtain ⟨spa, spk, he⟩ := hsp.shape
        rw [vl_length] at he
        subst he
        have e16 := energy_vl wc2 _ _ _ hSq hsy hvq hxk (hRS.one (k := k) hkn)
        obtain ⟨E1, E2, E3, E4, E5, hE, hE'⟩ : ∃ A1 A2 A3 A4 A5, fracV (en n (symA n l) (mEl qb) (s0.at n (symA n l) k).x) = .agg #[.int .u64 A1, .string A2, .bool A3, .int .u64 A4, .string A5] ∧ fcs (en n (symA n l) (mEl qb) (s0.at n (symA n l) k).x) = [.int .u64 A1, .string A2, .bool A3, .int .u64 A4, .string A5] := ⟨_, _, _, _, _, rfl, rfl⟩
        rw [hE] at e16
        have HE := Lib.hid hE
        have HCE := Lib.hid hE'
        clear hE hE'
        ((have y0 := bq.c0); (have y1 := bq.c1); (have y2 := bq.c2); (have yl := bq.lt))
        ((go_wp2_with fail); (((with_reducible refine (e16).mono ?_))); (rintro e wc3 ⟨rfl, hb⟩); (clear y0 y1 y2 yl e16); (replace hr0 := hr0.call hb); (replace hqr := hqr.call hb); (replace hSq := hSq.call hb); (replace hvq := hvq.call hb); (replace hxk := hxk.call hb); (replace hrk := hrk.call hb); (replace hpk := hpk.call hb); (replace hsp := hsp.call hb); (replace bq := bq.call hb); (clear hb))
        go_upto_region 17 with fail
        ((obtain ⟨Eb, hEb⟩ : ∃ z, z = wc3.heap.size := ⟨_, rfl⟩); (have bEb := Bx.new_at wc3 #[.int .u64 E1, .string E2, .bool E3, .int .u64 E4, .string E5] 52 hEb); (replace hr0 := hr0.alloc (.cells #[.int .u64 E1, .string E2, .bool E3, .int .u64 E4, .string E5] 52)); (replace hqr := hqr.alloc (.cells #[.int .u64 E1, .string E2, .bool E3, .int .u64 E4, .string E5] 52)); (replace bq := bq.alloc (.cells #[.int .u64 E1, .string E2, .bool E3, .int .u64 E4, .string E5] 52)); (replace hSq := hSq.call ((Below.refl _ _).alloc (Nat.le_refl _) (.cells #[.int .u64 E1, .string E2, .bool E3, .int .u64 E4, .string E5] 52))); (replace hvq := hvq.call ((Below.refl _ _).alloc (Nat.le_refl _) (.cells #[.int .u64 E1, .string E2, .bool E3, .int .u64 E4, .string E5] 52))); (replace hxk := hxk.call ((Below.refl _ _).alloc (Nat.le_refl _) (.cells #[.int .u64 E1, .string E2, .bool E3, .int .u64 E4, .string E5] 52))); (replace hrk := hrk.call ((Below.refl _ _).alloc (Nat.le_refl _) (.cells #[.int .u64 E1, .string E2, .bool E3, .int .u64 E4, .string E5] 52))); (replace hpk := hpk.call ((Below.refl _ _).alloc (Nat.le_refl _) (.cells #[.int .u64 E1, .string E2, .bool E3, .int .u64 E4, .string E5] 52))); (replace hsp := hsp.call ((Below.refl _ _).alloc (Nat.le_refl _) (.cells #[.int .u64 E1, .string E2, .bool E3, .int .u64 E4, .string E5] 52))); (rw [← hEb]); (clear hEb); (generalize wc3.alloc (.cells #[.int .u64 E1, .string E2, .bool E3, .int .u64 E4, .string E5] 52) = W4 at *))
        ((go_wp2_with fail); (((with_reducible refine (c2 _).mono ?_))); (rintro e wc5 ⟨rfl, hb⟩); (skip); (replace hr0 := hr0.call hb); (replace hqr := hqr.call hb); (replace hSq := hSq.call hb); (replace hvq := hvq.call hb); (replace hxk := hxk.call hb); (replace hrk := hrk.call hb); (replace hpk := hpk.call hb); (replace hsp := hsp.call hb); (replace bq := bq.call hb); (replace bEb := bEb.call hb); (clear hb))
        go_upto_region 18 with fail
        ((obtain ⟨Hb, hHb⟩ : ∃ z, z = wc5.heap.size := ⟨_, rfl⟩); (have bHb := Bx.new_at wc5 #[.int .u64 H1, .string H2, .bool H3, .int .u64 H4, .string H5] 52 hHb); (replace hr0 := hr0.alloc (.cells #[.int .u64 H1, .string H2, .bool H3, .int .u64 H4, .string H5] 52)); (replace hqr := hqr.alloc (.cells #[.int .u64 H1, .string H2, .bool H3, .int .u64 H4, .string H5] 52)); (replace bq := bq.alloc (.cells #[.int .u64 H1, .string H2, .bool H3, .int .u64 H4, .string H5] 52)); (replace bEb := bEb.alloc (.cells #[.int .u64 H1, .string H2, .bool H3, .int .u64 H4, .string H5] 52)); (replace hSq := hSq.call ((Below.refl _ _).alloc (Nat.le_refl _) (.cells #[.int .u64 H1, .string H2, .bool H3, .int .u64 H4, .string H5] 52))); (replace hvq := hvq.call ((Below.refl _ _).alloc (Nat.le_refl _) (.cells #[.int .u64 H1, .string H2, .bool H3, .int .u64 H4, .string H5] 52))); (replace hxk := hxk.call ((Below.refl _ _).alloc (Nat.le_refl _) (.cells #[.int .u64 H1, .string H2, .bool H3, .int .u64 H4, .string H5] 52))); (replace hrk := hrk.call ((Below.refl _ _).alloc (Nat.le_refl _) (.cells #[.int .u64 H1, .string H2, .bool H3, .int .u64 H4, .string H5] 52))); (replace hpk := hpk.call ((Below.refl _ _).alloc (Nat.le_refl _) (.cells #[.int .u64 H1, .string H2, .bool H3, .int .u64 H4, .string H5] 52))); (replace hsp := hsp.call ((Below.refl _ _).alloc (Nat.le_refl _) (.cells #[.int .u64 H1, .string H2, .bool H3, .int .u64 H4, .string H5] 52))); (rw [← hHb]); (clear hHb); (generalize wc5.alloc (.cells #[.int .u64 H1, .string H2, .bool H3, .int .u64 H4, .string H5] 52) = W6 at *))
        have hxax := (sz.x.dt (hRS.mv3 sz.x)).szk (m := 650000000000) (by omega) (by omega)
        have hbx := (hRS.hb.dt sz.x).szk (m := 450000000000) (by omega) (by omega)
        have hsv : SzK 2 hv := by rw [HV.out]; constructor <;> decide +kernel
        have e17 := fun W (h : In W6.heap.size W6 W) => lapply_vl (j := 150000000000) (l := 150000000000) W _ _ _ _ (hSq.call h.bel) (hxk.call h.bel) (by omega) hRS.hA.szk (sz.x.szk (Nat.le_refl _) (Nat.le_refl _)) (by decide) (by decide) (by have := HNN.out; omega)
        have e18 := fun W v (h : In W6.heap.size W6 W) (hv : VcQ (vl n (mv n (symA n l) (s0.at n (symA n l) k).x)) v W) => ldot_vl (j := 150000000000) (l := 450000000000) W _ v _ _ (hxk.call h.bel) hv (by omega) (sz.x.szk (Nat.le_refl _) (Nat.le_refl _)) ((hRS.mv3 sz.x).szk (Nat.le_refl _) (Nat.le_refl _)) (by decide) (by decide) (by omega)
        have e19 := fmul_any (i := 2) (j := 650000000000) hv _ hsv hxax (by omega)
        have e20 := fun W (h : In W6.heap.size W6 W) => ldot_vl (j := 150000000000) (l := 150000000000) W _ _ _ _ (hvq.call h.bel) (hxk.call h.bel) (by omega) (hRS.hb.szk (Nat.le_refl _) (Nat.le_refl _)) (sz.x.szk (Nat.le_refl _) (Nat.le_refl _)) (by decide) (by decide) (by omega)
        have e21 := fsub_any (i := 650000000002) (j := 450000000000) (hv * dt n (s0.at n (symA n l) k).x (mv n (symA n l) (s0.at n (symA n l) k).x)) (dt n (mEl qb) (s0.at n (symA n l) k).x) ((hsv.mul hxax).mono (by omega)) hbx (by omega)
        rw [show hv * dt n (s0.at n (symA n l) k).x (mv n (symA n l) (s0.at n (symA n l) k).x) - dt n (mEl qb) (s0.at n (symA n l) k).x = en n (symA n l) (mEl qb) (s0.at n (symA n l) k).x by rw [HV.out]; rfl, HE.out] at e21
        obtain ⟨q1, hq1⟩ : ∃ q, q = dt n (s0.at n (symA n l) k).x (mv n (symA n l) (s0.at n (symA n l) k).x) := ⟨_, rfl⟩
        obtain ⟨q2, hq2⟩ : ∃ q, q = dt n (mEl qb) (s0.at n (symA n l) k).x := ⟨_, rfl⟩
        simp only [← hq1] at e18
        rw [← hq1] at e19 e21
        simp only [← hq2] at e20
        rw [← hq2] at e21
        clear hq1 hq2 hxax hbx hsv
        obtain ⟨I1, I2, I3, I4, I5, hI, hI'⟩ : ∃ A1 A2 A3 A4 A5, fracV q1 = .agg #[.int .u64 A1, .string A2, .bool A3, .int .u64 A4, .string A5] ∧ fcs q1 = [.int .u64 A1, .string A2, .bool A3, .int .u64 A4, .string A5] := ⟨_, _, _, _, _, rfl, rfl⟩
        obtain ⟨J1, J2, J3, J4, J5, hJ, hJ'⟩ : ∃ A1 A2 A3 A4 A5, fracV q2 = .agg #[.int .u64 A1, .string A2, .bool A3, .int .u64 A4, .string A5] ∧ fcs q2 = [.int .u64 A1, .string A2, .bool A3, .int .u64 A4, .string A5] := ⟨_, _, _, _, _, rfl, rfl⟩
        obtain ⟨L1, L2, L3, L4, L5, hL, hL'⟩ : ∃ A1 A2 A3 A4 A5, fracV (hv * q1) = .agg #[.int .u64 A1, .string A2, .bool A3, .int .u64 A4, .string A5] ∧ fcs (hv * q1) = [.int .u64 A1, .string A2, .bool A3, .int .u64 A4, .string A5] := ⟨_, _, _, _, _, rfl, rfl⟩
        simp only [hI] at e18
        rw [HH.out, hI, hL] at e19
        simp only [hJ] at e20
        rw [hL, hJ] at e21
        clear hI hJ hL hI' hJ' hL'
        ((have g0 := bHb.c0); (have g1 := bHb.c1); (have g2 := bHb.c2); (have g3 := bHb.c3); (have g4 := bHb.c4); (have gl := bHb.lt))
        ((have y0 := bq.c0); (have y1 := bq.c1); (have y2 := bq.c2); (have yl := bq.lt))
        have h := In.self W6; have hc := h.cell; have hf := h.frozen; refine wp_region_flow 12 (by kernel_rfl) (by kernel_rfl) (fun _ _ d _ _ h => by cases d <;> exact h) ?_; simp only [List.take_succ_cons, List.take_zero, List.drop_succ_cons, List.drop_zero]; simp only [putAll, Act.put, List.setIfInBounds_toArray, List.set]; (try simp only [Nat.reduceAdd]); (try simp only [Nat.zero_add]); (repeat (first | ((with_reducible refine flow_float (v := ?_) ?_ ?_ ?_); rotate_left 1; (focus (with_reducible rfl)); (focus (intro u w1 hw hd w2; (try simp only [depH] at hd); (try simp only [ext] at hd); (try simp only [extU] at hd); (try simp only [Nat.reduceAdd] at hd); (try simp only [Nat.reduceEqDiff] at hd); (try simp only [reduceIte] at hd); (try simp only [and_true] at hd); (try simp only [true_and] at hd); go_simp; exact rfl))) | ((first | ((with_reducible refine flow_pure0 (v := ?_) ?_ ?_ ?_ ?_); rotate_left 1; (focus (with_reducible rfl)); (focus rfl)) | ((with_reducible refine flow_pureg (v := ?_) (j := ?_) (b := ?_) ?_ ?_ ?_ ?_); rotate_left 3; (focus (with_reducible rfl)); (focus (intro u w1 hw hd; (try simp only [depH] at hd); (try simp only [ext] at hd); (try simp only [extU] at hd); (try simp only [Nat.reduceAdd] at hd); (try simp only [Nat.reduceEqDiff] at hd); (try simp only [reduceIte] at hd); (try simp only [and_true] at hd); (try simp only [true_and] at hd); simp [yielded, hd]; done)))); (focus (intro u w1 hw hd; (try simp only [depH] at hd); (try simp only [ext] at hd); (try simp only [extU] at hd); (try simp only [Nat.reduceAdd] at hd); (try simp only [Nat.reduceEqDiff] at hd); (try simp only [reduceIte] at hd); (try simp only [and_true] at hd); (try simp only [true_and] at hd); have hc' := hw.cell; go_simp; exact rfl))) | ((with_reducible refine flow_skipg (j := ?_) (b := ?_) ?_ ?_ ?_); rotate_left 2; (focus (with_reducible rfl)); (focus (intro u w1 hw hd; (try simp only [depH] at hd); (try simp only [ext] at hd); (try simp only [extU] at hd); (try simp only [Nat.reduceAdd] at hd); (try simp only [Nat.reduceEqDiff] at hd); (try simp only [reduceIte] at hd); (try simp only [and_true] at hd); (try simp only [true_and] at hd); simp [yielded, hd]; done))) | ((with_reducible refine flow_alloc (t := ?_) (zs := ?_) ?_ ?_ ?_ ?_); rotate_left 2; (focus (with_reducible rfl)); (focus rfl); (focus (intro u w1; go_simp; exact rfl)))))
        (with_reducible refine flow_rel (Vi := VcQ (vl n (mv n (symA n l) (s0.at n (symA n l) k).x))) false ?_ ?_ ?_ ?_ ?_ ?_); (focus rfl); (focus rfl); (focus exact stable_vcq _); (focus exact placed_false _); (focus (intro u w1 hw hd; (try simp only [depH] at hd); (try simp only [ext] at hd); (try simp only [extU] at hd); (try simp only [Nat.reduceAdd] at hd); (try simp only [Nat.reduceEqDiff] at hd); (try simp only [reduceIte] at hd); (try simp only [and_true] at hd); (try simp only [true_and] at hd); have hc' := hw.cell; go_simp; (try simp only [okUpon]); go_at_call 19; ((with_reducible refine (e17 _ hw.ins).mono ?_)); rintro e w'' ⟨⟨v, rfl, hv⟩, hb⟩; exact ⟨v, rfl, ⟨hv, fun h => by cases h⟩, hb⟩))
        (with_reducible refine flow_pure0 (v := .agg #[.int .u64 I1, .string I2, .bool I3, .int .u64 I4, .string I5]) ?_ ?_ ?_ ?_); (focus (with_reducible rfl)); (focus rfl); (focus (intro u w1 hw hd; (try simp only [depH] at hd); (try simp only [ext] at hd); (try simp only [extU] at hd); (try simp only [Nat.reduceAdd] at hd); (try simp only [Nat.reduceEqDiff] at hd); (try simp only [reduceIte] at hd); (try simp only [and_true] at hd); (try simp only [true_and] at hd); obtain ⟨hd1, hd2⟩ := hd; have hc' := hw.cell; go_simp; go_at_call 26; ((with_reducible refine (e18 _ _ hw.ins hd2.1).mono ?_)); rintro e w'' ⟨rfl, hb⟩; exact ⟨rfl, hb⟩))
        (repeat (first | ((with_reducible refine flow_float (v := ?_) ?_ ?_ ?_); rotate_left 1; (focus (with_reducible rfl)); (focus (intro u w1 hw hd w2; (try simp only [depH] at hd); (try simp only [ext] at hd); (try simp only [extU] at hd); (try simp only [Nat.reduceAdd] at hd); (try simp only [Nat.reduceEqDiff] at hd); (try simp only [reduceIte] at hd); (try simp only [and_true] at hd); (try simp only [true_and] at hd); go_simp; exact rfl))) | ((first | ((with_reducible refine flow_pure0 (v := ?_) ?_ ?_ ?_ ?_); rotate_left 1; (focus (with_reducible rfl)); (focus rfl)) | ((with_reducible refine flow_pureg (v := ?_) (j := ?_) (b := ?_) ?_ ?_ ?_ ?_); rotate_left 3; (focus (with_reducible rfl)); (focus (intro u w1 hw hd; (try simp only [depH] at hd); (try simp only [ext] at hd); (try simp only [extU] at hd); (try simp only [Nat.reduceAdd] at hd); (try simp only [Nat.reduceEqDiff] at hd); (try simp only [reduceIte] at hd); (try simp only [and_true] at hd); (try simp only [true_and] at hd); simp [yielded, hd]; done)))); (focus (intro u w1 hw hd; (try simp only [depH] at hd); (try simp only [ext] at hd); (try simp only [extU] at hd); (try simp only [Nat.reduceAdd] at hd); (try simp only [Nat.reduceEqDiff] at hd); (try simp only [reduceIte] at hd); (try simp only [and_true] at hd); (try simp only [true_and] at hd); have hc' := hw.cell; first | (go_simp; exact rfl) | (go_simp; go_at_call 25; ((with_reducible refine (e19 _).mono ?_)); rintro e w'' ⟨rfl, hb⟩; refine ⟨?_, hb⟩; exact rfl) | (go_simp; go_at_call 26; ((with_reducible refine (e20 _ hw.ins).mono ?_)); rintro e w'' ⟨rfl, hb⟩; refine ⟨?_, hb⟩; exact rfl) | (go_simp; go_at_call 24; ((with_reducible refine (e21 _).mono ?_)); rintro e w'' ⟨rfl, hb⟩; refine ⟨?_, hb⟩; exact rfl)))) | ((with_reducible refine flow_skipg (j := ?_) (b := ?_) ?_ ?_ ?_); rotate_left 2; (focus (with_reducible rfl)); (focus (intro u w1 hw hd; (try simp only [depH] at hd); (try simp only [ext] at hd); (try simp only [extU] at hd); (try simp only [Nat.reduceAdd] at hd); (try simp only [Nat.reduceEqDiff] at hd); (try simp only [reduceIte] at hd); (try simp only [and_true] at hd); (try simp only [true_and] at hd); simp [yielded, hd]; done))) | ((with_reducible refine flow_alloc (t := ?_) (zs := ?_) ?_ ?_ ?_ ?_); rotate_left 2; (focus (with_reducible rfl)); (focus rfl); (focus (intro u w1; go_simp; exact rfl)))))
        (try clear hc hf h); intro u w' h ha hdi; replace h := h.ins; (try simp only [World.size_alloc] at h); (try dsimp only at ha); (repeat rw [World.size_alloc] at ha); (try simp only [allH] at ha); (try simp only [ext] at ha); (try simp only [extU] at ha); (try simp only [Nat.reduceAdd] at ha); (try simp only [Nat.reduceEqDiff] at ha); (try simp only [reduceIte] at ha); (try simp only [and_true] at ha); (try simp only [true_and] at ha); have hc := h.cell; have hf := h.frozen; clear hdi hc hf; rename World => wf
        clear e17 e18 e19 e20 e21
        obtain ⟨ha, Wb, hu, hWb, bWb⟩ := ha
        (try dsimp only)
        simp only [ha, hu]
        clear ha hu
        ((have p0 := bWb.c0); (have p1 := bWb.c1); (have p2 := bWb.c2); (have p3 := bWb.c3); (have p4 := bWb.c4); (have pf0 := bWb.frozen 0); (have pf1 := bWb.frozen 1); (have pf2 := bWb.frozen 2); (have pf3 := bWb.frozen 3); (have pf4 := bWb.frozen 4); (have pl := bWb.lt); (have KS := Lib.hid (((((bWb.set 0 (.int .u64 E1)).set 1 (.string E2)).set 2 (.bool E3)).set 3 (.int .u64 E4)).set 4 (.string E5))); (have KH := Lib.hid (((((h.setCell (p := ⟨Wb, 0, none⟩) (by first | exact hWb | (simp; omega)) (.int .u64 E1)).setCell (p := ⟨Wb, 1, none⟩) (by first | exact hWb | (simp; omega)) (.string E2)).setCell (p := ⟨Wb, 2, none⟩) (by first | exact hWb | (simp; omega)) (.bool E3)).setCell (p := ⟨Wb, 3, none⟩) (by first | exact hWb | (simp; omega)) (.int .u64 E4)).setCell (p := ⟨Wb, 4, none⟩) (by first | exact hWb | (simp; omega)) (.string E5))); (clear h bWb); (go_upto_region 19 with fail); (have hb := KH.out.bel); (have bWb := KS.out); (simp only [List.set] at bWb); (clear g0 g1 g2 g3 g4 gl y0 y1 y2 yl bHb); (replace hr0 := hr0.call hb); (replace hqr := hqr.call hb); (replace hSq := hSq.call hb); (replace hvq := hvq.call hb); (replace hxk := hxk.call hb); (replace hrk := hrk.call hb); (replace hpk := hpk.call hb); (replace hsp := hsp.call hb); (replace bq := bq.call hb); (replace bEb := bEb.call hb); (clear KS KH hb pl p0 p1 p2 p3 p4 pf0 pf1 pf2 pf3 pf4); (generalize ((((wf.setCell ⟨Wb, 0, none⟩ (.int .u64 E1)).setCell ⟨Wb, 1, none⟩ (.string E2)).setCell ⟨Wb, 2, none⟩ (.bool E3)).setCell ⟨Wb, 3, none⟩ (.int .u64 E4)).setCell ⟨Wb, 4, none⟩ (.string E5) = W7 at *))
        ((have m0 := bEb.c0); (have m1 := bEb.c1); (have m2 := bEb.c2); (have m3 := bEb.c3); (have m4 := bEb.c4); (have ml := bEb.lt))
        ((have g0 := bWb.c0); (have g1 := bWb.c1); (have g2 := bWb.c2); (have g3 := bWb.c3); (have g4 := bWb.c4); (have gl := bWb.lt))
        go_upto_region 21 with fail
        clear m0 m1 m2 m3 m4 ml g0 g1 g2 g3 g4 gl bWb
        have e22 := ldot_vl (j := 150000000000) (l := 150000000000) W7 _ _ _ _ hrk hrk (by omega) (sz.r.szk (Nat.le_refl _) (Nat.le_refl _)) (sz.r.szk (Nat.le_refl _) (Nat.le_refl _)) (by decide) (by decide) (by omega)
        obtain ⟨R1, R2, R3, R4, R5, hR, hR'⟩ : ∃ A1 A2 A3 A4 A5, fracV (dt n (s0.at n (symA n l) k).r (s0.at n (symA n l) k).r) = .agg #[.int .u64 A1, .string A2, .bool A3, .int .u64 A4, .string A5] ∧ fcs (dt n (s0.at n (symA n l) k).r (s0.at n (symA n l) k).r) = [.int .u64 A1, .string A2, .bool A3, .int .u64 A4, .string A5] := ⟨_, _, _, _, _, rfl, rfl⟩
        rw [hR] at e22
        have HR := Lib.hid hR
        clear hR hR'
        ((go_wp2_with fail); (((with_reducible refine (e22).mono ?_))); (rintro e wc8 ⟨rfl, hb⟩); (clear e22); (replace hr0 := hr0.call hb); (replace hqr := hqr.call hb); (replace hSq := hSq.call hb); (replace hvq := hvq.call hb); (replace hxk := hxk.call hb); (replace hrk := hrk.call hb); (replace hpk := hpk.call hb); (replace hsp := hsp.call hb); (replace bq := bq.call hb); (replace bEb := bEb.call hb); (clear hb))
        have e23 := ldot_vl (j := 150000000000) (l := 450000000000) wc8 _ _ _ _ hpk hsp (by omega) (sz.p.szk (Nat.le_refl _) (Nat.le_refl _)) ((hRS.mv3 sz.p).szk (Nat.le_refl _) (Nat.le_refl _)) (by decide) (by decide) (by omega)

        obtain rfl : z = false := by rw [HZ.out]; exact decide_eq_false hrr
        skip
        by_cases hpp : dt n (s0.at n (symA n l) k).p (mv n (symA n l) (s0.at n (symA n l) k).p) = 0
        · skip
          rw [hpp, frac_zero] at e23
          ((go_wp2_with fail); (((with_reducible refine (e23).mono ?_))); (rintro e wc9 ⟨rfl, hb⟩); (clear e23); (replace hr0 := hr0.call hb); (replace hqr := hqr.call hb); (replace hSq := hSq.call hb); (replace hvq := hvq.call hb); (replace hxk := hxk.call hb); (replace hrk := hrk.call hb); (replace hpk := hpk.call hb); (replace hsp := hsp.call hb); (replace bq := bq.call hb); (replace bEb := bEb.call hb); (clear hb))
          have e24 := fdiv_zero (dt n (s0.at n (symA n l) k).r (s0.at n (symA n l) k).r)
          rw [HR.out, frac_zero] at e24
          ((go_wp2_with fail); (((with_reducible refine (e24 _).mono ?_))); (rintro e wc10 ⟨rfl, hb⟩); (clear e24); (replace hr0 := hr0.call hb); (replace hqr := hqr.call hb); (replace hSq := hSq.call hb); (replace hvq := hvq.call hb); (replace hxk := hxk.call hb); (replace hrk := hrk.call hb); (replace hpk := hpk.call hb); (replace hsp := hsp.call hb); (replace bq := bq.call hb); (replace bEb := bEb.call hb); (clear hb))
          go_upto_region 22 with fail
          ((obtain ⟨Fb, hFb⟩ : ∃ z, z = wc10.heap.size := ⟨_, rfl⟩); (have bFb := Bx.new_at wc10 #[.int .u64 0, .string ⟨#[]⟩, .bool false, .int .u64 0, .string ⟨#[]⟩] 52 hFb); (replace hr0 := hr0.alloc (.cells #[.int .u64 0, .string ⟨#[]⟩, .bool false, .int .u64 0, .string ⟨#[]⟩] 52)); (replace hqr := hqr.alloc (.cells #[.int .u64 0, .string ⟨#[]⟩, .bool false, .int .u64 0, .string ⟨#[]⟩] 52)); (replace bq := bq.alloc (.cells #[.int .u64 0, .string ⟨#[]⟩, .bool false, .int .u64 0, .string ⟨#[]⟩] 52)); (replace bEb := bEb.alloc (.cells #[.int .u64 0, .string ⟨#[]⟩, .bool false, .int .u64 0, .string ⟨#[]⟩] 52)); (replace hSq := hSq.call ((Below.refl _ _).alloc (Nat.le_refl _) (.cells #[.int .u64 0, .string ⟨#[]⟩, .bool false, .int .u64 0, .string ⟨#[]⟩] 52))); (replace hvq := hvq.call ((Below.refl _ _).alloc (Nat.le_refl _) (.cells #[.int .u64 0, .string ⟨#[]⟩, .bool false, .int .u64 0, .string ⟨#[]⟩] 52))); (replace hxk := hxk.call ((Below.refl _ _).alloc (Nat.le_refl _) (.cells #[.int .u64 0, .string ⟨#[]⟩, .bool false, .int .u64 0, .string ⟨#[]⟩] 52))); (replace hrk := hrk.call ((Below.refl _ _).alloc (Nat.le_refl _) (.cells #[.int .u64 0, .string ⟨#[]⟩, .bool false, .int .u64 0, .string ⟨#[]⟩] 52))); (replace hpk := hpk.call ((Below.refl _ _).alloc (Nat.le_refl _) (.cells #[.int .u64 0, .string ⟨#[]⟩, .bool false, .int .u64 0, .string ⟨#[]⟩] 52))); (replace hsp := hsp.call ((Below.refl _ _).alloc (Nat.le_refl _) (.cells #[.int .u64 0, .string ⟨#[]⟩, .bool false, .int .u64 0, .string ⟨#[]⟩] 52))); (rw [← hFb]); (clear hFb); (generalize wc10.alloc (.cells #[.int .u64 0, .string ⟨#[]⟩, .bool false, .int .u64 0, .string ⟨#[]⟩] 52) = W11 at *))

          ((go_wp2_with fail); (((with_reducible refine (cz _).mono ?_))); (rintro e wc12 ⟨rfl, hb⟩); (skip); (replace hr0 := hr0.call hb); (replace hqr := hqr.call hb); (replace hSq := hSq.call hb); (replace hvq := hvq.call hb); (replace hxk := hxk.call hb); (replace hrk := hrk.call hb); (replace hpk := hpk.call hb); (replace hsp := hsp.call hb); (replace bq := bq.call hb); (replace bEb := bEb.call hb); (replace bFb := bFb.call hb); (clear hb))
          go_wp2_with fail
          go_ret
          exact ⟨rfl, (hin.call hqr.bel).bel⟩
        · skip
          obtain ⟨G1, G2, G3, G4, G5, hG, hG'⟩ : ∃ A1 A2 A3 A4 A5, fracV (dt n (s0.at n (symA n l) k).p (mv n (symA n l) (s0.at n (symA n l) k).p)) = .agg #[.int .u64 A1, .string A2, .bool A3, .int .u64 A4, .string A5] ∧ fcs (dt n (s0.at n (symA n l) k).p (mv n (symA n l) (s0.at n (symA n l) k).p)) = [.int .u64 A1, .string A2, .bool A3, .int .u64 A4, .string A5] := ⟨_, _, _, _, _, rfl, rfl⟩
          rw [hG] at e23
          ((go_wp2_with fail); (((with_reducible refine (e23).mono ?_))); (rintro e wc9 ⟨rfl, hb⟩); (clear e23); (replace hr0 := hr0.call hb); (replace hqr := hqr.call hb); (replace hSq := hSq.call hb); (replace hvq := hvq.call hb); (replace hxk := hxk.call hb); (replace hrk := hrk.call hb); (replace hpk := hpk.call hb); (replace hsp := hsp.call hb); (replace bq := bq.call hb); (replace bEb := bEb.call hb); (clear hb))
          have e24 := run_far hRS hkn hpp
          rw [HR.out, hG] at e24
          obtain ⟨F1, F2, F3, F4, F5, hF'x, hF'y⟩ : ∃ A1 A2 A3 A4 A5, fracV ((s0.at n (symA n l) k).far n (symA n l)) = .agg #[.int .u64 A1, .string A2, .bool A3, .int .u64 A4, .string A5] ∧ fcs ((s0.at n (symA n l) k).far n (symA n l)) = [.int .u64 A1, .string A2, .bool A3, .int .u64 A4, .string A5] := ⟨_, _, _, _, _, rfl, rfl⟩
          simp only [hF'x] at e24
          clear hG hG'
          have HF := Lib.hid hF'x
          have HCF := Lib.hid hF'y
          clear hF'x hF'y
          ((go_wp2_with fail); (((with_reducible refine (e24 _).mono ?_))); (rintro e wc10 ⟨rfl, hb⟩); (clear e24); (replace hr0 := hr0.call hb); (replace hqr := hqr.call hb); (replace hSq := hSq.call hb); (replace hvq := hvq.call hb); (replace hxk := hxk.call hb); (replace hrk := hrk.call hb); (replace hpk := hpk.call hb); (replace hsp := hsp.call hb); (replace bq := bq.call hb); (replace bEb := bEb.call hb); (clear hb))
          go_upto_region 22 with fail
          ((obtain ⟨Fb, hFb⟩ : ∃ z, z = wc10.heap.size := ⟨_, rfl⟩); (have bFb := Bx.new_at wc10 #[.int .u64 F1, .string F2, .bool F3, .int .u64 F4, .string F5] 52 hFb); (replace hr0 := hr0.alloc (.cells #[.int .u64 F1, .string F2, .bool F3, .int .u64 F4, .string F5] 52)); (replace hqr := hqr.alloc (.cells #[.int .u64 F1, .string F2, .bool F3, .int .u64 F4, .string F5] 52)); (replace bq := bq.alloc (.cells #[.int .u64 F1, .string F2, .bool F3, .int .u64 F4, .string F5] 52)); (replace bEb := bEb.alloc (.cells #[.int .u64 F1, .string F2, .bool F3, .int .u64 F4, .string F5] 52)); (replace hSq := hSq.call ((Below.refl _ _).alloc (Nat.le_refl _) (.cells #[.int .u64 F1, .string F2, .bool F3, .int .u64 F4, .string F5] 52))); (replace hvq := hvq.call ((Below.refl _ _).alloc (Nat.le_refl _) (.cells #[.int .u64 F1, .string F2, .bool F3, .int .u64 F4, .string F5] 52))); (replace hxk := hxk.call ((Below.refl _ _).alloc (Nat.le_refl _) (.cells #[.int .u64 F1, .string F2, .bool F3, .int .u64 F4, .string F5] 52))); (replace hrk := hrk.call ((Below.refl _ _).alloc (Nat.le_refl _) (.cells #[.int .u64 F1, .string F2, .bool F3, .int .u64 F4, .string F5] 52))); (replace hpk := hpk.call ((Below.refl _ _).alloc (Nat.le_refl _) (.cells #[.int .u64 F1, .string F2, .bool F3, .int .u64 F4, .string F5] 52))); (replace hsp := hsp.call ((Below.refl _ _).alloc (Nat.le_refl _) (.cells #[.int .u64 F1, .string F2, .bool F3, .int .u64 F4, .string F5] 52))); (rw [← hFb]); (clear hFb); (generalize wc10.alloc (.cells #[.int .u64 F1, .string F2, .bool F3, .int .u64 F4, .string F5] 52) = W11 at *))
          clear bEb
          have e32 := axpy_vl (i := 1050000000000) (j := 150000000000) (l := 150000000000) W11 _ _ _ _ _ hpk hxk (by omega) ((hRS.far hkn).szk (by omega) (by omega)) (sz.p.szk (Nat.le_refl _) (Nat.le_refl _)) (sz.x.szk (Nat.le_refl _) (Nat.le_refl _)) (by omega)
          rw [HF.out] at e32
          ((have g0 := bFb.c0); (have g1 := bFb.c1); (have g2 := bFb.c2); (have g3 := bFb.c3); (have g4 := bFb.c4); (have gl := bFb.lt))
          ((go_wp2_with fail); (((with_reducible refine (e32).mono ?_))); (rintro e wc12 ⟨⟨nv, rfl, hnv⟩, hb⟩); (clear g0 g1 g2 g3 g4 gl e32); (replace hr0 := hr0.call hb); (replace hqr := hqr.call hb); (replace hSq := hSq.call hb); (replace hvq := hvq.call hb); (replace hxk := hxk.call hb); (replace hrk := hrk.call hb); (replace hpk := hpk.call hb); (replace hsp := hsp.call hb); (replace bq := bq.call hb); (replace bFb := bFb.call hb); (clear hb))
          obtain ⟨na, nk, he⟩ := hnv.shape
          rw [vl_length] at he
          subst he
          have e33 := fneg_any ((s0.at n (symA n l) k).far n (symA n l))
          rw [HF.out] at e33
          obtain ⟨I1, I2, I3, I4, I5, hI, hI'⟩ : ∃ A1 A2 A3 A4 A5, fracV (-(s0.at n (symA n l) k).far n (symA n l)) = .agg #[.int .u64 A1, .string A2, .bool A3, .int .u64 A4, .string A5] ∧ fcs (-(s0.at n (symA n l) k).far n (symA n l)) = [.int .u64 A1, .string A2, .bool A3, .int .u64 A4, .string A5] := ⟨_, _, _, _, _, rfl, rfl⟩
          rw [hI] at e33
          ((have g0 := bFb.c0); (have g1 := bFb.c1); (have g2 := bFb.c2); (have g3 := bFb.c3); (have g4 := bFb.c4); (have gl := bFb.lt))
          ((go_wp2_with fail); (((with_reducible refine (e33 _).mono ?_))); (rintro e wc13 ⟨rfl, hb⟩); (clear g0 g1 g2 g3 g4 gl e33); (replace hr0 := hr0.call hb); (replace hqr := hqr.call hb); (replace hSq := hSq.call hb); (replace hvq := hvq.call hb); (replace hxk := hxk.call hb); (replace hrk := hrk.call hb); (replace hpk := hpk.call hb); (replace hsp := hsp.call hb); (replace hnv := hnv.call hb); (replace bq := bq.call hb); (replace bFb := bFb.call hb); (clear hb))
          have e34 := axpy_vl (i := 1050000000000) (j := 450000000000) (l := 150000000000) wc13 _ _ _ _ _ hsp hrk (by omega) ((hRS.far hkn).neg.szk (by omega) (by omega)) ((hRS.mv3 sz.p).szk (Nat.le_refl _) (Nat.le_refl _)) (sz.r.szk (Nat.le_refl _) (Nat.le_refl _)) (by omega)
          rw [hI] at e34
          clear hI hI'
          ((go_wp2_with fail); (((with_reducible refine (e34).mono ?_))); (rintro e wc14 ⟨⟨lv, rfl, hlv⟩, hb⟩); (clear e34); (replace hr0 := hr0.call hb); (replace hqr := hqr.call hb); (replace hSq := hSq.call hb); (replace hvq := hvq.call hb); (replace hxk := hxk.call hb); (replace hrk := hrk.call hb); (replace hpk := hpk.call hb); (replace hsp := hsp.call hb); (replace hnv := hnv.call hb); (replace bq := bq.call hb); (replace bFb := bFb.call hb); (clear hb))
          obtain ⟨la', lk', he⟩ := hlv.shape
          rw [vl_length] at he
          subst he
          replace hlv : VecAt wc14 (.slice la' n lk') (vl n (s0.at n (symA n l) (k + 1)).r) := hlv
          have e35 := ldot_vl (j := 8 * 150000000000 + 29) (l := 8 * 150000000000 + 29) wc14 _ _ _ _ hlv hlv (by omega) ((hRS.r8 hkn).szk (Nat.le_refl _) (Nat.le_refl _)) ((hRS.r8 hkn).szk (Nat.le_refl _) (Nat.le_refl _)) (by decide) (by decide) (by omega)
          obtain ⟨J1, J2, J3, J4, J5, hJ, hJ'⟩ : ∃ A1 A2 A3 A4 A5, fracV (dt n (s0.at n (symA n l) (k + 1)).r (s0.at n (symA n l) (k + 1)).r) = .agg #[.int .u64 A1, .string A2, .bool A3, .int .u64 A4, .string A5] ∧ fcs (dt n (s0.at n (symA n l) (k + 1)).r (s0.at n (symA n l) (k + 1)).r) = [.int .u64 A1, .string A2, .bool A3, .int .u64 A4, .string A5] := ⟨_, _, _, _, _, rfl, rfl⟩
          rw [hJ] at e35
          ((go_wp2_with fail); (((with_reducible refine (e35).mono ?_))); (rintro e wc15 ⟨rfl, hb⟩); (clear e35); (replace hr0 := hr0.call hb); (replace hqr := hqr.call hb); (replace hSq := hSq.call hb); (replace hvq := hvq.call hb); (replace hxk := hxk.call hb); (replace hrk := hrk.call hb); (replace hpk := hpk.call hb); (replace hsp := hsp.call hb); (replace hnv := hnv.call hb); (replace hlv := hlv.call hb); (replace bq := bq.call hb); (replace bFb := bFb.call hb); (clear hb))
          have e36 := ldot_vl (j := 150000000000) (l := 150000000000) wc15 _ _ _ _ hrk hrk (by omega) (sz.r.szk (Nat.le_refl _) (Nat.le_refl _)) (sz.r.szk (Nat.le_refl _) (Nat.le_refl _)) (by decide) (by decide) (by omega)
          rw [HR.out] at e36
          ((go_wp2_with fail); (((with_reducible refine (e36).mono ?_))); (rintro e wc16 ⟨rfl, hb⟩); (clear e36); (replace hr0 := hr0.call hb); (replace hqr := hqr.call hb); (replace hSq := hSq.call hb); (replace hvq := hvq.call hb); (replace hxk := hxk.call hb); (replace hrk := hrk.call hb); (replace hpk := hpk.call hb); (replace hsp := hsp.call hb); (replace hnv := hnv.call hb); (replace hlv := hlv.call hb); (replace bq := bq.call hb); (replace bFb := bFb.call hb); (clear hb))
          have e37 := run_beta hRS hkn hrr
          rw [hJ, HR.out] at e37
          obtain ⟨L1, L2, L3, L4, L5, hL''⟩ : ∃ A1 A2 A3 A4 A5, fracV (beta n (symA n l) s0 k) = .agg #[.int .u64 A1, .string A2, .bool A3, .int .u64 A4, .string A5] := ⟨_, _, _, _, _, rfl⟩
          simp only [hL''] at e37
          clear hJ hJ'
          ((go_wp2_with fail); (((with_reducible refine (e37 _).mono ?_))); (rintro e wc17 ⟨rfl, hb⟩); (clear e37); (replace hr0 := hr0.call hb); (replace hqr := hqr.call hb); (replace hSq := hSq.call hb); (replace hvq := hvq.call hb); (replace hxk := hxk.call hb); (replace hrk := hrk.call hb); (replace hpk := hpk.call hb); (replace hsp := hsp.call hb); (replace hnv := hnv.call hb); (replace hlv := hlv.call hb); (replace bq := bq.call hb); (replace bFb := bFb.call hb); (clear hb))
          go_upto_region 35 with fail
          ((obtain ⟨Bb, hBb⟩ : ∃ z, z = wc17.heap.size := ⟨_, rfl⟩); (have bBb := Bx.new_at wc17 #[.int .u64 L1, .string L2, .bool L3, .int .u64 L4, .string L5] 52 hBb); (replace hr0 := hr0.alloc (.cells #[.int .u64 L1, .string L2, .bool L3, .int .u64 L4, .string L5] 52)); (replace hqr := hqr.alloc (.cells #[.int .u64 L1, .string L2, .bool L3, .int .u64 L4, .string L5] 52)); (replace bq := bq.alloc (.cells #[.int .u64 L1, .string L2, .bool L3, .int .u64 L4, .string L5] 52)); (replace bFb := bFb.alloc (.cells #[.int .u64 L1, .string L2, .bool L3, .int .u64 L4, .string L5] 52)); (replace hSq := hSq.call ((Below.refl _ _).alloc (Nat.le_refl _) (.cells #[.int .u64 L1, .string L2, .bool L3, .int .u64 L4, .string L5] 52))); (replace hvq := hvq.call ((Below.refl _ _).alloc (Nat.le_refl _) (.cells #[.int .u64 L1, .string L2, .bool L3, .int .u64 L4, .string L5] 52))); (replace hxk := hxk.call ((Below.refl _ _).alloc (Nat.le_refl _) (.cells #[.int .u64 L1, .string L2, .bool L3, .int .u64 L4, .string L5] 52))); (replace hrk := hrk.call ((Below.refl _ _).alloc (Nat.le_refl _) (.cells #[.int .u64 L1, .string L2, .bool L3, .int .u64 L4, .string L5] 52))); (replace hpk := hpk.call ((Below.refl _ _).alloc (Nat.le_refl _) (.cells #[.int .u64 L1, .string L2, .bool L3, .int .u64 L4, .string L5] 52))); (replace hsp := hsp.call ((Below.refl _ _).alloc (Nat.le_refl _) (.cells #[.int .u64 L1, .string L2, .bool L3, .int .u64 L4, .string L5] 52))); (replace hnv := hnv.call ((Below.refl _ _).alloc (Nat.le_refl _) (.cells #[.int .u64 L1, .string L2, .bool L3, .int .u64 L4, .string L5] 52))); (replace hlv := hlv.call ((Below.refl _ _).alloc (Nat.le_refl _) (.cells #[.int .u64 L1, .string L2, .bool L3, .int .u64 L4, .string L5] 52))); (rw [← hBb]); (clear hBb); (generalize wc17.alloc (.cells #[.int .u64 L1, .string L2, .bool L3, .int .u64 L4, .string L5] 52) = W18 at *))
          have e38 := axpy_vl (i := 23 * 150000000000) (j := 150000000000) (l := 8 * 150000000000 + 29) W18 _ _ _ _ _ hpk hlv (by omega) (((hRS.rr2 hkn).div (hRS.rr hkn)).szk (by omega) (by omega)) (sz.p.szk (Nat.le_refl _) (Nat.le_refl _)) ((hRS.r8 hkn).szk (Nat.le_refl _) (Nat.le_refl _)) (by omega)
          rw [show fracV (dt n (s0.at n (symA n l) (k + 1)).r (s0.at n (symA n l) (k + 1)).r / dt n (s0.at n (symA n l) k).r (s0.at n (symA n l) k).r) = .agg #[.int .u64 L1, .string L2, .bool L3, .int .u64 L4, .string L5] from hL''] at e38
          clear hL''
          ((have g0 := bBb.c0); (have g1 := bBb.c1); (have g2 := bBb.c2); (have g3 := bBb.c3); (have g4 := bBb.c4); (have gl := bBb.lt))
          ((go_wp2_with fail); (((with_reducible refine (e38).mono ?_))); (rintro e wc19 ⟨⟨pv', rfl, hpv'⟩, hb⟩); (clear g0 g1 g2 g3 g4 gl e38 bBb); (replace hr0 := hr0.call hb); (replace hqr := hqr.call hb); (replace hSq := hSq.call hb); (replace hvq := hvq.call hb); (replace hxk := hxk.call hb); (replace hrk := hrk.call hb); (replace hpk := hpk.call hb); (replace hsp := hsp.call hb); (replace hnv := hnv.call hb); (replace hlv := hlv.call hb); (replace bq := bq.call hb); (replace bFb := bFb.call hb); (clear hb))
          obtain ⟨pa', pk', he⟩ := hpv'.shape
          rw [vl_length] at he
          subst he
          have HX2 : Hid (VecAt wc19 (.slice na n nk) (vl n (s0.at n (symA n l) (k + 1)).x)) := Lib.hid hnv
          have HR2 := Lib.hid hlv
          have HP2 : Hid (VecAt wc19 (.slice pa' n pk') (vl n (s0.at n (symA n l) (k + 1)).p)) := Lib.hid hpv'
          have HQ2 := Lib.hid hqr
          have HK2 : Hid (∀ i, i < k + 1 → dt n (s0.at n (symA n l) i).r (s0.at n (symA n l) i).r ≠ 0 ∧ dt n (s0.at n (symA n l) i).p (mv n (symA n l) (s0.at n (symA n l) i).p) ≠ 0) := Lib.hid fun i hi => by
            by_cases e : i < k
            · exact HK.out i e
            · obtain rfl : i = k := by omega
              exact ⟨hrr, hpp⟩
          go_wp2_with fail
          exact ⟨⟨k + 1, _, _, _, by omega, rfl, rfl, rfl, by go_num, HQ2.out, HX2.out, HR2.out, HP2.out, HK2⟩, by simp [RowKit.intOf]; omega⟩
      · have hkI : ¬ (k : Int) ≤ (n : Int) := by omega
        have bq := bSb.call hq.bel
        skip
        ((have y0 := bq.c0); (have y1 := bq.c1); (have y2 := bq.c2); (have yl := bq.lt))
        ((go_wp2_with fail); (((with_reducible refine (cz _).mono ?_))); (rintro e wc1 ⟨rfl, hb⟩); (clear y0 y1 y2 yl); (replace hq := hq.call hb); (replace bq := bq.call hb); (clear hb))
        go_wp2_with fail
        go_ret
        exact ⟨rfl, (hin.call hq.bel).bel⟩
end Gus
end
section
/- gussetlaw19.CgsSteps. -/
namespace Gus
open Go Go.RowKit Go.Proofs
theorem steps_any (w : World) (N : Nat) (hN : N < 256) (la : Option Addr) (lc : Nat) (l : List TQ) (hl : TAt w la l) (hok : TOk l) (hL : l.length ≤ maxLen) (ba sa : Option Addr) (bc sc : Nat) (qb qs : List (Int × Int)) (hqb : QAt w ba qb) (hqs : QAt w sa qs) (hob : QOk qb) (hos : QOk qs) (hLb : qb.length ≤ maxLen) (hLs : qs.length ≤ maxLen) :
    Calls Tryz.prog 3 #[.agg #[.int .u8 N, .slice la l.length lc], .slice ba qb.length bc, .slice sa qs.length sc] w fun e w' => e = .returned (.bool true) ∧ Below w.heap.size w w' := by
  by_cases h : ∃ j, Fin (N % 6) (symA (N % 6) l) (startC (N % 6) (symA (N % 6) l) (mEl qb) (mEl qs)) j
  · exact steps_ok w N hN la lc l hl hok hL ba sa bc sc qb qs hqb hqs hob hos hLb hLs h
  · exact steps_road w N hN la lc l hl hok hL ba sa bc sc qb qs hqb hqs hob hos hLb hLs h
end Gus
end
section
/- Proved: whatever the symmetric matrix, the right-hand side and the start, gussetlaw19.CgsSteps returns true, and the arguments read as before. Conditions: the three listed tables hold what the program's text lays (the card ties them). -/
namespace Go.Proofs.YtjbclomfocnplaaGreatDoor
open Go Go.RowKit Go.ChangeShapes Go.WideShapes Go.ChangeAt Gus
namespace Stp
theorem params_ok : ∀ t ∈ Tryz.f3.params.toList, Tryz.prog.readableRec t = true ∧ t < Tryz.prog.types.size := by
  rw [Tryz.params3]
  intro t ht
  simp only [List.mem_cons, List.not_mem_nil, or_false] at ht
  rcases ht with rfl | rfl | rfl <;> exact ⟨by kernel_rfl, of_decide_eq_true (by kernel_rfl)⟩
set_option maxRecDepth 100000 in
theorem contract (H : Type) (enc : TypeId × Value → H) (W : World) (base : Nat) (args : Array Value) (ds gs : List (DataW H)) (before : List MemPlace)
    (hval : ∀ (j : Nat) t v, Tryz.f3.params[j]? = some t → args[j]? = some v → Value.okWide Tryz.prog W .any base t v)
    (hW : DataW.Whole enc Tryz.prog Tryz.f3.params.toList Rows.cgsStepsSpec.vars false W args.toList ds gs before) :
    Calls Tryz.prog 3 args W fun e W' => ∃ v, e = .returned v ∧ Rows.cgsStepsSpec.post enc Tryz.prog Tryz.f3 false true false false W args v W' := by
  have hW' := hW
  have hlt := hW.lt
  obtain ⟨p, q, hA0, hV, rfl, hfz, hnd⟩ := hW
  have hA1 : DataW.TrodAll enc Tryz.prog W 0 (fun _ => true) true Tryz.f3.params.toList args.toList ds p := hA0
  have hA := hA1
  rw [Tryz.params3] at hA hval
  obtain ⟨v0, vs0, d0, ds0, p0, q0, hargs, rfl, rfl, h0, r0⟩ := trodAll_cons hA
  obtain ⟨v1, vs1, d1, ds1, p1, q1, rfl, rfl, rfl, h1, r1⟩ := trodAll_cons r0
  obtain ⟨v2, vs2, d2, ds2, p2, q2, rfl, rfl, rfl, h2, r2⟩ := trodAll_cons r1
  obtain ⟨rfl, rfl, rfl⟩ := trodAll_nil r2
  obtain rfl : args = #[v0, v1, v2] := by cases args; simp_all
  obtain ⟨rfl, rfl⟩ := trodVars_none hV
  obtain ⟨N0, a0, l0, k0, rfl, hN0, hq0, ho0, hl0⟩ := open_s (hval 0 24 v0 (by rfl) (by rfl)) h0
  obtain ⟨a1, q1, k1, rfl, hq1, ho1, hl1⟩ := open_vec (hval 1 25 v1 (by rfl) (by rfl)) h1
  obtain ⟨a2, q2, k2, rfl, hq2, ho2, hl2⟩ := open_vec (hval 2 25 v2 (by rfl) (by rfl)) h2
  refine (steps_any W N0 hN0 a0 k0 l0 hq0 ho0 hl0 a1 a2 k1 k2 q1 q2 hq1 hq2 ho1 ho2 hl1 hl2).mono fun e W' ⟨he, hb⟩ => ?_
  subst he
  exact ⟨_, rfl, row_end (pv := []) hb hW' rfl (fun sp hsp => args_stay hb params_ok hA1 (fun x hx => hlt x (List.mem_append.2 (.inl hx))) (fun x hx => hsp x (List.mem_append.2 (.inl hx)))) (fun _ _ => rfl)
    (fun _ _ _ => trodAll_cons_mk (shut_bool Tryz.underlying4 _) trodAll_mk0) (ok_one (by kernel_rfl) rfl (okWide_bool_mk Tryz.underlying4 _))⟩
abbrev input : Array Value := #[.agg #[.int .u8 0, .slice none 0 0], .slice none 0 0, .slice none 0 0]
theorem laid_met (os : Os) : laidMet Tryz.prog Rows.cgsStepsRow.laid ((laidW os).forCall (fun _ _ => 0) ⟨#[], input, []⟩).memory :=
  laidMet_of_run' 8 (by kernel_rfl) (by kernel_rfl)
theorem reads (os : Os) {H : Type} (enc : TypeId × Value → H) : ∃ places, DataW.whole enc Tryz.prog ((laidW os).forCall (fun _ _ => 0) ⟨#[], input, []⟩).memory Tryz.f3.params.toList Rows.cgsStepsSpec.vars false input.toList 8 = some ([.agg [.lit (.int .u8 0), .nil], .nil, .nil], [], places) :=
  ⟨[], by kernel_rfl⟩
set_option maxRecDepth 100000 in
theorem lifted (os : Os) (started : os.Started) (H : Type) (enc : TypeId × Value → H) (F : Stop.Interp) :
    ReturnsInHanded {} Tryz.checked os 3 .any ((OpenSpec.ofChange Rows.cgsStepsSpec).preRow enc Tryz.prog Tryz.f3 Rows.cgsStepsRow.domain false Rows.cgsStepsRow.laid) (((OpenSpec.ofChange Rows.cgsStepsSpec).at F).post enc Tryz.prog Tryz.f3 false true false false) := by
  obtain ⟨places, hx⟩ := reads os enc
  refine returnsInHanded_of_row (C := Tryz.checked) (s := OpenSpec.ofChange Rows.cgsStepsSpec) ownK started (by kernel_rfl) Tryz.func3
    (witness_row_at (enc := enc) (C := Tryz.checked) false (laidW os) input rfl (by kernel_rfl) (by kernel_rfl) (by kernel_rfl)
      (OpenSpec.preRow_of_cond 8 hx (by kernel_rfl) (fun k hk => by cases hk) (by kernel_rfl) (laid_met os))) ?_
  intro W base args ds gs before hval hW _ _ _ _ _ _
  exact contract H enc W base args ds gs before hval hW
theorem h_named : Tryz.pinned.checked.prog.funcNamed Rows.cgsStepsRow.func = some 3 := by kernel_rfl
theorem h_closed : joinedFacts Tryz.pinned.checked.prog 3 Tryz.f3 (OpenSpec.ofChange Rows.cgsStepsSpec).bare Rows.cgsStepsRow = true := by kernel_rfl
theorem h_inst : Tryz.f3.isInstance Tryz.pinned.checked.prog Rows.cgsStepsRow.origin Rows.cgsStepsRow.targs := of_decide_eq_true (by kernel_rfl)
theorem h_wrap : Tryz.f3.isWrapper Tryz.pinned.checked.prog Rows.cgsStepsRow.wrapper Rows.cgsStepsRow.mainSum := by unfold Func.isWrapper; first | (rw [if_pos (by decide +kernel)]; kernel_rfl) | (rw [if_neg (by decide +kernel)]; exact ⟨rfl, rfl⟩)
theorem said : Rows.CgsStepsSaid :=
  OpenClaim.holds_of_cond 3 Tryz.f3 rfl rfl rfl rfl rfl rfl rfl ⟨rfl, rfl, rfl, rfl, rfl⟩ rfl rfl rfl rfl rfl h_named Tryz.func3 h_closed h_inst h_wrap
    (fun os started H enc _ F => by rw [OpenClaim.pre_eq_preRow]; exact lifted os started H enc F)
theorem plain (f : FuncId) (fn : Func) (hf : Tryz.pinned.checked.prog.funcNamed "gusset/gussetlaw19.CgsSteps" = some f) (hfn : Tryz.pinned.checked.prog.funcs[f]? = some fn) :
    false = Tryz.pinned.checked.prog.looks [] ∧ ∀ (j : Nat) t, fn.params[j]? = some t → Tryz.pinned.checked.prog.wantsStandIn t = false := by
  obtain rfl : f = 3 := Option.some.inj ((show Tryz.prog.funcNamed "gusset/gussetlaw19.CgsSteps" = some 3 by kernel_rfl).symm.trans hf) |>.symm
  obtain rfl : fn = Tryz.f3 := (Option.some.inj (Tryz.func3.symm.trans hfn)).symm
  refine ⟨by kernel_rfl, fun j t ht => ?_⟩
  have hm := Array.mem_of_getElem? ht
  rw [Tryz.params3] at hm
  simp only [List.mem_toArray, List.mem_cons, List.not_mem_nil, or_false] at hm
  rcases hm with rfl | rfl | rfl
  · exact (show Tryz.prog.wantsStandIn 24 = false by kernel_rfl)
  · exact (show Tryz.prog.wantsStandIn 25 = false by kernel_rfl)
  · exact (show Tryz.prog.wantsStandIn 25 = false by kernel_rfl)
end Stp
/-- the card -/
theorem steps_card : Rows.CgsStepsCardSaid :=
  Claim7.holds_tied_plain_at .later [] _ _ _ _ Stp.said (fun _ h => by cases h) (by kernel_rfl) (fun _ h => by cases h) cgsSteps_row_tie rfl ⟨rfl, rfl⟩ (by kernel_rfl) rfl Stp.plain (by kernel_rfl)
end Go.Proofs.YtjbclomfocnplaaGreatDoor
end
