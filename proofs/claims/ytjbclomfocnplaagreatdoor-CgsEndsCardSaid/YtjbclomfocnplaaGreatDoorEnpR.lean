/- Proved: whatever the positive definite matrix, the right-hand side and the start vector, gussetlaw19.CgsEnds returns true, and the arguments read as before. Conditions: the three listed tables hold what the program's text lays (the card ties them). -/
import Derived.Test.YtjbclomfocnplaaGreatDoorEliR
import Derived.Test.YtjbclomfocnplaaGreatDoorFlowCR
import Derived.Test.YtjbclomfocnplaaGreatDoorCgoR
section
/- gussetlaw19.CgsEnds: the plain part. -/
namespace Gus
open Go Go.RowKit Go.Proofs
theorem pos_ker {n : Nat} {A : Nat → Nat → Rat} (hP : Pos n A) (y : Nat → Rat) (h : Ker n n A y) : ∀ i, i < n → y i = 0 := by
  have h0 : dt n y (mv n A y) = 0 := by
    unfold dt
    rw [sm_congr n (G := fun _ => 0) fun i hi => by
      show y i * mv n A y i = 0
      have : mv n A y i = 0 := h i hi
      rw [this, Rat.mul_zero], sm_zero]
  by_cases h1 : dt n y y = 0
  · exact dt_self h1
  · have := hP y h1
    rw [h0] at this
    exact absurd this (by decide)
/-- two solutions of a positive definite system agree -/
theorem pos_uniq {n : Nat} {A : Nat → Nat → Rat} (hP : Pos n A) {b x y : Vc} (hx : ∀ i, i < n → mv n A x i = b i) (hy : ∀ i, i < n → mv n A y i = b i) : vl n x = vl n y := by
  refine vl_congr fun i hi => ?_
  have := pos_ker hP (fun k => x k - y k) (fun r hr => by
    have e : sm (fun c => A r c * (x c - y c)) n = mv n A x r - mv n A y r := by
      have h1 : sm (fun c => A r c * (x c - y c)) n = mv n A (axp (-1) y x) r := sm_congr n fun c _ => by unfold axp; grind
      rw [h1, mv_axp]
      unfold axp; grind
    rw [e, hx r hr, hy r hr]; grind) i hi
  grind
/-- where the run ends, the system is solved -/
theorem fin_sol {n : Nat} {A : Nat → Nat → Rat} {b : Vc} {s0 : Cg} (h : ∀ i, i < n → s0.r i = b i - mv n A s0.x i) {j : Nat} (hF : Fin n A s0 j) : ∀ i, i < n → mv n A (s0.at n A j).x i = b i := fun i hi => by
  have h1 := at_left s0 h j i hi
  have h2 := dt_self hF.2.1 i hi
  rw [h2] at h1
  grind
theorem dense_row {n : Nat} {A : Nat → Nat → Rat} (i k : Nat) (hi : i < n) (hk : k < n) : (dense n n A).getD (i * n + k) 0 = A i k := by
  have := mvals_dense A hi hk
  unfold mvals at this
  exact this
theorem matQ_of {w : World} {g n m r c : Nat} {qs : List Rat} (h : VBx w g qs) (hn : n = qs.length) (hm : qs.length = r * c) (hc : n = m) : MatQ w (.agg #[.int .i64 r, .int .i64 c, .slice (some ⟨g, 0, none⟩) n m]) r c qs := by
  subst hc hn
  exact ⟨g, 0, _, rfl, hm, Nat.le_refl _, h.lt, fun j _ => by rw [h.cell, Nat.zero_add]⟩
end Gus
end
section
/- gussetlaw19.CgsEnds. -/
namespace Gus
open Go Go.RowKit Go.Proofs
set_option maxRecDepth 100000 in
set_option maxHeartbeats 100000000 in
theorem ends_any (w : World) (N : Nat) (hN : N < 256) (la : Option Addr) (lc : Nat) (l : List TQ) (hl : TAt w la l) (hok : TOk l) (hL : l.length ≤ maxLen) (ba sa : Option Addr) (bc sc : Nat) (qb qs : List (Int × Int)) (hqb : QAt w ba qb) (hqs : QAt w sa qs) (hob : QOk qb) (hos : QOk qs) (hLb : qb.length ≤ maxLen) (hLs : qs.length ≤ maxLen) :
    Calls Tryz.prog 8 #[.agg #[.int .u8 N, .slice la l.length lc], .slice ba qb.length bc, .slice sa qs.length sc] w fun e w' => e = .returned (.bool true) ∧ Below w.heap.size w w' := by
  ((have cz := cgworks_any); (have hin := In.self w); (obtain ⟨sm, hsm⟩ : ∃ sm, sm = smallT l [qb, qs] := ⟨_, rfl⟩); (obtain ⟨n, hn⟩ : ∃ n, n = N % (6 + 1) := ⟨_, rfl⟩); (have hn5 : n ≤ 6 := by omega); (have HN := Lib.hid hn); (clear hn); (go_enter Tryz.func8, Tryz.ntmps8); (go_upto_region 1 with fail); (skip); (((obtain ⟨S0, hS0⟩ : ∃ z, z = w.heap.size := ⟨_, rfl⟩); (have bS0 := Bx.new_at w #[.int .u8 N, .slice la l.length lc] 24 hS0); (replace hin := hin.alloc (.cells #[.int .u8 N, .slice la l.length lc] 24)); (replace hl := hl.call ((Below.refl _ _).alloc (Nat.le_refl _) (.cells #[.int .u8 N, .slice la l.length lc] 24))); (replace hqb := hqb.call ((Below.refl _ _).alloc (Nat.le_refl _) (.cells #[.int .u8 N, .slice la l.length lc] 24))); (replace hqs := hqs.call ((Below.refl _ _).alloc (Nat.le_refl _) (.cells #[.int .u8 N, .slice la l.length lc] 24))); (rw [← hS0]); (clear hS0); (generalize w.alloc (.cells #[.int .u8 N, .slice la l.length lc] 24) = W1 at *))); (((have s0 := bS0.c0); (have s1 := bS0.c1); (have sl := bS0.lt))); (go_wp2_with fail); (((obtain ⟨V, hV⟩ : ∃ z, z = W1.heap.size := ⟨_, rfl⟩); (have bV := Bx.new_at W1 #[.slice ba qb.length bc, .slice sa qs.length sc] 25 hV); (clear s0 s1 sl); (replace hin := hin.alloc (.cells #[.slice ba qb.length bc, .slice sa qs.length sc] 25)); (replace bS0 := bS0.alloc (.cells #[.slice ba qb.length bc, .slice sa qs.length sc] 25)); (replace hl := hl.call ((Below.refl _ _).alloc (Nat.le_refl _) (.cells #[.slice ba qb.length bc, .slice sa qs.length sc] 25))); (replace hqb := hqb.call ((Below.refl _ _).alloc (Nat.le_refl _) (.cells #[.slice ba qb.length bc, .slice sa qs.length sc] 25))); (replace hqs := hqs.call ((Below.refl _ _).alloc (Nat.le_refl _) (.cells #[.slice ba qb.length bc, .slice sa qs.length sc] 25))); (rw [← hV]); (clear hV); (generalize W1.alloc (.cells #[.slice ba qb.length bc, .slice sa qs.length sc] 25) = W2 at *))); (have c0 := small_any W2 N la lc l (some ⟨V, 0, none⟩) 2 [qb, qs] hl (qs_two bV hqb hqs) hL (by simp) (fun q hq => by simp only [List.mem_cons, List.not_mem_nil, or_false] at hq; rcases hq with rfl | rfl; exact hLb; exact hLs)); (rw [← hsm, show [qb, qs].length = 2 from rfl] at c0); (have HSM := Lib.hid hsm); (clear hsm); (((((with_reducible refine (c0).mono ?_))); (rintro e wc3 ⟨rfl, hb⟩); (clear c0 bV); (replace hin := hin.call hb); (replace hl := hl.call hb); (replace hqb := hqb.call hb); (replace hqs := hqs.call hb); (replace bS0 := bS0.call hb); (clear hb))))
  skip
  rcases sm with _ | _
  · ((go_wp2_with fail); (((with_reducible refine (cz _).mono ?_))); (rintro e wc4 ⟨rfl, hb⟩); (skip); (replace hin := hin.call hb); (replace hl := hl.call hb); (replace hqb := hqb.call hb); (replace hqs := hqs.call hb); (replace bS0 := bS0.call hb); (clear hb))
    go_wp2_with fail
    go_ret
    exact ⟨rfl, hin.bel⟩
  · skip
    ((obtain ⟨h30, hln, hbn, hsn, h12, h12'⟩ := small_split HSM.out.symm); (have hCM : CM n 332 332 (plusA n l) := plusA_cm hln hok h30); (have hsy := plusA_sym n l); (have hRS := sys_runS (n := n) (by omega) hCM hbn hob hsn hos); (have c1 := splus_any (j := 10) wc3 N n 6 la lc l hl hok (by omega) hN (by decide) HN.out (fun t ht => (qOf_ss (List.all_eq_true.1 hln t ht) (hok t ht).2.2.2.2.1).szk (Nat.le_refl _) (Nat.le_refl _)) (by decide) (by decide)); (rw [show ((6 : Nat) : Int) = 6 from rfl] at c1); (((have s0 := bS0.c0); (have s1 := bS0.c1); (have sl := bS0.lt))); (go_wp2_with fail); (((with_reducible refine c1.mono ?_))); (rintro e wa ⟨⟨sv, rfl, hS⟩, hb⟩); (clear s0 s1 sl c1 bS0 hl); (replace hin := hin.call hb); (replace hqb := hqb.call hb); (replace hqs := hqs.call hb); (clear hb); (replace hS : SpM wa sv n n (plusA n l) := hS.m); (obtain ⟨ra, rk, rfl⟩ := hS.shape); (go_upto_region 4 with fail); (((obtain ⟨Sb, hSb⟩ : ∃ z, z = wa.heap.size := ⟨_, rfl⟩); (have bSb := Bx.new_at wa #[.int .i64 n, .int .i64 n, .slice ra n rk] 30 hSb); (replace hin := hin.alloc (.cells #[.int .i64 n, .int .i64 n, .slice ra n rk] 30)); (replace hqb := hqb.call ((Below.refl _ _).alloc (Nat.le_refl _) (.cells #[.int .i64 n, .int .i64 n, .slice ra n rk] 30))); (replace hqs := hqs.call ((Below.refl _ _).alloc (Nat.le_refl _) (.cells #[.int .i64 n, .int .i64 n, .slice ra n rk] 30))); (replace hS := hS.call ((Below.refl _ _).alloc (Nat.le_refl _) (.cells #[.int .i64 n, .int .i64 n, .slice ra n rk] 30))); (rw [← hSb]); (clear hSb); (generalize wa.alloc (.cells #[.int .i64 n, .int .i64 n, .slice ra n rk] 30) = wS at *))); (have cv1 := fun W (h : In wS.heap.size wS W) => lvec_any W ba bc n qb (hqb.call h.bel) hob (by omega) (by omega)); (have cv2 := fun W (h : In wS.heap.size wS W) => lvec_any W sa sc n qs (hqs.call h.bel) hos (by omega) (by omega)); (((have s0 := bSb.c0); (have s1 := bSb.c1); (have s2 := bSb.c2); (have sl := bSb.lt))))
    have h := In.self wS; have hc := h.cell; have hf := h.frozen; refine wp_region_flow 8 (by kernel_rfl) (by kernel_rfl) (fun _ _ d _ _ h => by cases d <;> exact h) ?_; simp only [List.take_succ_cons, List.take_zero, List.drop_succ_cons, List.drop_zero]; simp only [putAll, Act.put, List.setIfInBounds_toArray, List.set]; (try simp only [Nat.reduceAdd]); (try simp only [Nat.zero_add]); (repeat (first | ((with_reducible refine flow_float (v := ?_) ?_ ?_ ?_); rotate_left 1; (focus (with_reducible rfl)); (focus (intro u w1 hw hd w2; (try simp only [depH] at hd); (try simp only [ext] at hd); (try simp only [extU] at hd); (try simp only [Nat.reduceAdd] at hd); (try simp only [Nat.reduceEqDiff] at hd); (try simp only [reduceIte] at hd); (try simp only [and_true] at hd); (try simp only [true_and] at hd); go_simp; exact rfl))) | ((first | ((with_reducible refine flow_pure0 (v := ?_) ?_ ?_ ?_ ?_); rotate_left 1; (focus (with_reducible rfl)); (focus rfl)) | ((with_reducible refine flow_pureg (v := ?_) (j := ?_) (b := ?_) ?_ ?_ ?_ ?_); rotate_left 3; (focus (with_reducible rfl)); (focus (intro u w1 hw hd; (try simp only [depH] at hd); (try simp only [ext] at hd); (try simp only [extU] at hd); (try simp only [Nat.reduceAdd] at hd); (try simp only [Nat.reduceEqDiff] at hd); (try simp only [reduceIte] at hd); (try simp only [and_true] at hd); (try simp only [true_and] at hd); simp [yielded, hd]; done)))); (focus (intro u w1 hw hd; (try simp only [depH] at hd); (try simp only [ext] at hd); (try simp only [extU] at hd); (try simp only [Nat.reduceAdd] at hd); (try simp only [Nat.reduceEqDiff] at hd); (try simp only [reduceIte] at hd); (try simp only [and_true] at hd); (try simp only [true_and] at hd); have hc' := hw.cell; go_simp; exact rfl))) | ((with_reducible refine flow_skipg (j := ?_) (b := ?_) ?_ ?_ ?_); rotate_left 2; (focus (with_reducible rfl)); (focus (intro u w1 hw hd; (try simp only [depH] at hd); (try simp only [ext] at hd); (try simp only [extU] at hd); (try simp only [Nat.reduceAdd] at hd); (try simp only [Nat.reduceEqDiff] at hd); (try simp only [reduceIte] at hd); (try simp only [and_true] at hd); (try simp only [true_and] at hd); simp [yielded, hd]; done))) | ((with_reducible refine flow_alloc (t := ?_) (zs := ?_) ?_ ?_ ?_ ?_); rotate_left 2; (focus (with_reducible rfl)); (focus rfl); (focus (intro u w1; go_simp; exact rfl)))))
    (with_reducible refine flow_rel (Vi := VcQ (vl n (mEl qb))) false ?_ ?_ ?_ ?_ ?_ ?_); (focus rfl); (focus rfl); (focus exact stable_vcq _); (focus exact placed_false _); (focus (intro u w1 hw hd; (try simp only [depH] at hd); (try simp only [ext] at hd); (try simp only [extU] at hd); (try simp only [Nat.reduceAdd] at hd); (try simp only [Nat.reduceEqDiff] at hd); (try simp only [reduceIte] at hd); (try simp only [and_true] at hd); (try simp only [true_and] at hd); have hc' := hw.cell; go_simp; (try simp only [okUpon]); go_at_call 15; ((with_reducible refine (cv1 _ hw.ins).mono ?_)); rintro e w'' ⟨⟨v, rfl, hv⟩, hb⟩; exact ⟨v, rfl, ⟨hv, fun h => by cases h⟩, hb⟩))
    (repeat (first | ((with_reducible refine flow_float (v := ?_) ?_ ?_ ?_); rotate_left 1; (focus (with_reducible rfl)); (focus (intro u w1 hw hd w2; (try simp only [depH] at hd); (try simp only [ext] at hd); (try simp only [extU] at hd); (try simp only [Nat.reduceAdd] at hd); (try simp only [Nat.reduceEqDiff] at hd); (try simp only [reduceIte] at hd); (try simp only [and_true] at hd); (try simp only [true_and] at hd); go_simp; exact rfl))) | ((first | ((with_reducible refine flow_pure0 (v := ?_) ?_ ?_ ?_ ?_); rotate_left 1; (focus (with_reducible rfl)); (focus rfl)) | ((with_reducible refine flow_pureg (v := ?_) (j := ?_) (b := ?_) ?_ ?_ ?_ ?_); rotate_left 3; (focus (with_reducible rfl)); (focus (intro u w1 hw hd; (try simp only [depH] at hd); (try simp only [ext] at hd); (try simp only [extU] at hd); (try simp only [Nat.reduceAdd] at hd); (try simp only [Nat.reduceEqDiff] at hd); (try simp only [reduceIte] at hd); (try simp only [and_true] at hd); (try simp only [true_and] at hd); simp [yielded, hd]; done)))); (focus (intro u w1 hw hd; (try simp only [depH] at hd); (try simp only [ext] at hd); (try simp only [extU] at hd); (try simp only [Nat.reduceAdd] at hd); (try simp only [Nat.reduceEqDiff] at hd); (try simp only [reduceIte] at hd); (try simp only [and_true] at hd); (try simp only [true_and] at hd); have hc' := hw.cell; go_simp; exact rfl))) | ((with_reducible refine flow_skipg (j := ?_) (b := ?_) ?_ ?_ ?_); rotate_left 2; (focus (with_reducible rfl)); (focus (intro u w1 hw hd; (try simp only [depH] at hd); (try simp only [ext] at hd); (try simp only [extU] at hd); (try simp only [Nat.reduceAdd] at hd); (try simp only [Nat.reduceEqDiff] at hd); (try simp only [reduceIte] at hd); (try simp only [and_true] at hd); (try simp only [true_and] at hd); simp [yielded, hd]; done))) | ((with_reducible refine flow_alloc (t := ?_) (zs := ?_) ?_ ?_ ?_ ?_); rotate_left 2; (focus (with_reducible rfl)); (focus rfl); (focus (intro u w1; go_simp; exact rfl)))))
    (with_reducible refine flow_rel (Vi := VcQ (vl n (mEl qs))) false ?_ ?_ ?_ ?_ ?_ ?_); (focus rfl); (focus rfl); (focus exact stable_vcq _); (focus exact placed_false _); (focus (intro u w1 hw hd; (try simp only [depH] at hd); (try simp only [ext] at hd); (try simp only [extU] at hd); (try simp only [Nat.reduceAdd] at hd); (try simp only [Nat.reduceEqDiff] at hd); (try simp only [reduceIte] at hd); (try simp only [and_true] at hd); (try simp only [true_and] at hd); have hc' := hw.cell; go_simp; (try simp only [okUpon]); go_at_call 15; ((with_reducible refine (cv2 _ hw.ins).mono ?_)); rintro e w'' ⟨⟨v, rfl, hv⟩, hb⟩; exact ⟨v, rfl, ⟨hv, fun h => by cases h⟩, hb⟩))
    (((try clear hc hf h); intro u w' h ha hdi; replace h := h.ins; (try simp only [World.size_alloc] at h); (try dsimp only at ha); (repeat rw [World.size_alloc] at ha); (try simp only [allH] at ha); (try simp only [ext] at ha); (try simp only [extU] at ha); (try simp only [Nat.reduceAdd] at ha); (try simp only [Nat.reduceEqDiff] at ha); (try simp only [reduceIte] at ha); (try simp only [and_true] at ha); (try simp only [true_and] at ha); have hc := h.cell; have hf := h.frozen; have hb := h.bel; clear hdi hc hf; clear s0 s1 s2 sl hqb hqs cv1 cv2; replace hin := hin.call hb; replace hS := hS.call hb; replace bSb := bSb.call hb; clear hb h; rename World => wv); (obtain ⟨⟨⟨⟨⟨⟨⟨h0, h1⟩, h2⟩, hvb⟩, h4⟩, h5⟩, h6⟩, hvx⟩ := ha); (replace hvb := hvb.v); (replace hvx := hvx.v); (obtain ⟨va, vk, hvbe⟩ := hvb.shape); (obtain ⟨xa, xk, hvxe⟩ := hvx.shape); (rw [vl_length] at hvbe hvxe); (rw [hvbe] at hvb); (rw [hvxe] at hvx); ((try dsimp only)); (simp only [hvbe, hvxe]); (clear h0 h1 h2 h4 h5 h6 hvbe hvxe); (obtain ⟨s0, hs0⟩ : ∃ s, s = startC n (plusA n l) (mEl qb) (mEl qs) := ⟨_, rfl⟩); (have hs0x : s0.x = mEl qs := by rw [hs0]; rfl); (have hs0r : ∀ i, i < n → s0.r i = mEl qb i - mv n (plusA n l) s0.x i := fun i _ => by rw [hs0]; rfl); (have hs0p : s0.p = s0.r := by rw [hs0]; rfl); (rw [← hs0] at hRS); ((try simp only [← hs0] at h5)); (have HS0 := Lib.hid hs0); (clear hs0); (have c3 := from_vl wv _ _ _ hS hsy hvb (by rw [hs0x]; exact hvx) hs0r hs0p hRS); (((have y0 := bSb.c0); (have y1 := bSb.c1); (have y2 := bSb.c2); (have yl := bSb.lt))); (((go_wp2_with fail); (((with_reducible refine (c3).mono ?_))); (rintro e wr ⟨⟨v, rfl, hP⟩, hb⟩); (clear y0 y1 y2 yl c3); (replace hin := hin.call hb); (replace hS := hS.call hb); (replace hvb := hvb.call hb); (replace hvx := hvx.call hb); (replace bSb := bSb.call hb); (clear hb))))
    have hPo := plusA_pos n l
    obtain ⟨j, d, hF, rfl, hst⟩ : ∃ j d, Fin n (plusA n l) s0 j ∧ v = .tuple #[d, .int .i64 0] ∧ StepsAt wr d n (j + 1) (runD n (plusA n l) (mEl qb) s0 j) := by
      rcases hP with h | ⟨h, _⟩
      · exact h
      · exact absurd (fin_pos hsy hPo hs0p) h
    clear hP
    obtain ⟨b, off, cap, he, hall⟩ := hst.open
    subst he
    clear hst
    have hjn := hF.1
    obtain ⟨xaj, raj, paj, xkj, rkj, pkj, Kj⟩ := hall j (by omega)
    clear hall
    skip
    have cd := dense_okc wr _ n n (plusA n l) hS (by omega) (by omega)
    ((have y0 := bSb.c0); (have y1 := bSb.c1); (have y2 := bSb.c2); (have yl := bSb.lt))
    ((go_wp2_with fail); (((with_reducible refine (cd).mono ?_))); (rintro e wc7 ⟨⟨g, m2, hm2, rfl, hg⟩, hb⟩); (clear y0 y1 y2 yl cd); (replace hin := hin.call hb); (replace hS := hS.call hb); (replace hvb := hvb.call hb); (replace hvx := hvx.call hb); (replace Kj := Kj.call hb); (replace bSb := bSb.call hb); (clear hb))
    have hMC := matQ_of (r := n) (c := n) (m := m2) hg (by rw [dense_length]; exact hm2) (dense_length n n _) rfl
    skip
    have HM2 := Lib.hid hm2
    clear hg hm2
    go_upto_region 7 with fail
    ((obtain ⟨Mb, hMb⟩ : ∃ z, z = wc7.heap.size := ⟨_, rfl⟩); (have bMb := Bx.new_at wc7 #[.int .i64 n, .int .i64 n, .slice (some ⟨g, 0, none⟩) m2 m2] 96 hMb); (replace hin := hin.alloc (.cells #[.int .i64 n, .int .i64 n, .slice (some ⟨g, 0, none⟩) m2 m2] 96)); (replace bSb := bSb.alloc (.cells #[.int .i64 n, .int .i64 n, .slice (some ⟨g, 0, none⟩) m2 m2] 96)); (replace hS := hS.call ((Below.refl _ _).alloc (Nat.le_refl _) (.cells #[.int .i64 n, .int .i64 n, .slice (some ⟨g, 0, none⟩) m2 m2] 96))); (replace hvb := hvb.call ((Below.refl _ _).alloc (Nat.le_refl _) (.cells #[.int .i64 n, .int .i64 n, .slice (some ⟨g, 0, none⟩) m2 m2] 96))); (replace hvx := hvx.call ((Below.refl _ _).alloc (Nat.le_refl _) (.cells #[.int .i64 n, .int .i64 n, .slice (some ⟨g, 0, none⟩) m2 m2] 96))); (replace Kj := Kj.call ((Below.refl _ _).alloc (Nat.le_refl _) (.cells #[.int .i64 n, .int .i64 n, .slice (some ⟨g, 0, none⟩) m2 m2] 96))); (replace hMC := hMC.call ((Below.refl _ _).alloc (Nat.le_refl _) (.cells #[.int .i64 n, .int .i64 n, .slice (some ⟨g, 0, none⟩) m2 m2] 96))); (rw [← hMb]); (clear hMb); (generalize wc7.alloc (.cells #[.int .i64 n, .int .i64 n, .slice (some ⟨g, 0, none⟩) m2 m2] 96) = W8 at *))
    have hpow : 5 * (332 * 5 ^ n) + 2 < 17592186044416 := by
      have : 5 ^ n ≤ 5 ^ 6 := Nat.pow_le_pow_right (by decide) (by omega)
      omega
    have ce := esolve_full (z := 332) W8 _ _ n (plusA n l) (dense n n (plusA n l)) (mEl qb) hMC (fun i k hi hk => dense_row i k hi hk) hvb (by omega) (by decide) hCM.szk (fun i _ => (mEl_ss hbn hob i).szk (by decide) (by decide)) hpow (pos_ker hPo)
    clear hpow
    ((have m0 := bMb.c0); (have m1 := bMb.c1); (have m2 := bMb.c2); (have ml := bMb.lt))
    ((go_wp2_with fail); (((with_reducible refine (ce).mono ?_))); (rintro e wc9 ⟨⟨cv, rfl, hcv⟩, hb⟩); (clear m0 m1 m2 ml ce hMC); (replace hin := hin.call hb); (replace hS := hS.call hb); (replace hvb := hvb.call hb); (replace hvx := hvx.call hb); (replace Kj := Kj.call hb); (replace bSb := bSb.call hb); (replace bMb := bMb.call hb); (clear hb))
    obtain ⟨ca, ck, he⟩ := hcv.shape
    rw [vl_length] at he
    subst he
    go_upto_region 8 with fail
    ((obtain ⟨Cb, hCb⟩ : ∃ z, z = wc9.heap.size := ⟨_, rfl⟩); (have bCb := Bx.new_at wc9 #[.slice ca n ck, .slice none 0 0] 101 hCb); (replace hin := hin.alloc (.cells #[.slice ca n ck, .slice none 0 0] 101)); (replace bSb := bSb.alloc (.cells #[.slice ca n ck, .slice none 0 0] 101)); (replace bMb := bMb.alloc (.cells #[.slice ca n ck, .slice none 0 0] 101)); (replace hS := hS.call ((Below.refl _ _).alloc (Nat.le_refl _) (.cells #[.slice ca n ck, .slice none 0 0] 101))); (replace hvb := hvb.call ((Below.refl _ _).alloc (Nat.le_refl _) (.cells #[.slice ca n ck, .slice none 0 0] 101))); (replace hvx := hvx.call ((Below.refl _ _).alloc (Nat.le_refl _) (.cells #[.slice ca n ck, .slice none 0 0] 101))); (replace Kj := Kj.call ((Below.refl _ _).alloc (Nat.le_refl _) (.cells #[.slice ca n ck, .slice none 0 0] 101))); (replace hcv := hcv.call ((Below.refl _ _).alloc (Nat.le_refl _) (.cells #[.slice ca n ck, .slice none 0 0] 101))); (rw [← hCb]); (clear hCb); (generalize wc9.alloc (.cells #[.slice ca n ck, .slice none 0 0] 101) = W10 at *))
    obtain ⟨s1, hs1⟩ : ∃ s, s = startC n (plusA n l) (mEl qb) fun _ => 0 := ⟨_, rfl⟩
    have hR0 := sys_run0 (n := n) (by omega) hCM hbn hob
    rw [← hs1] at hR0
    have hs1x : s1.x = fun _ => 0 := by rw [hs1]; rfl
    have hs1r : ∀ i, i < n → s1.r i = mEl qb i - mv n (plusA n l) s1.x i := fun i _ => by rw [hs1]; rfl
    have hs1p : s1.p = s1.r := by rw [hs1]; rfl
    clear hs1
    have cs := solve_vl W10 _ _ hS hsy hvb hs1x hs1r hs1p hR0
    ((have y0 := bSb.c0); (have y1 := bSb.c1); (have y2 := bSb.c2); (have yl := bSb.lt))
    ((go_wp2_with fail); (((with_reducible refine (cs).mono ?_))); (rintro e wc11 ⟨⟨v2, rfl, hP2⟩, hb⟩); (clear y0 y1 y2 yl cs); (replace hin := hin.call hb); (replace hS := hS.call hb); (replace hvb := hvb.call hb); (replace hvx := hvx.call hb); (replace Kj := Kj.call hb); (replace hcv := hcv.call hb); (replace bSb := bSb.call hb); (replace bMb := bMb.call hb); (replace bCb := bCb.call hb); (clear hb))
    obtain ⟨j2, d2, hF2, rfl, hd2⟩ : ∃ j d, Fin n (plusA n l) s1 j ∧ v2 = .tuple #[d, .int .i64 0] ∧ VecAt wc11 d (vl n (s1.at n (plusA n l) j).x) := by
      rcases hP2 with h | ⟨h, _⟩
      · exact h
      · exact absurd (fin_pos hsy hPo hs1p) h
    clear hP2
    have hX : vl n (s0.at n (plusA n l) j).x = vl n (fun i => (elim n (aug n (plusA n l) (mEl qb)) n).M i n) := pos_uniq hPo (fin_sol hs0r hF) (solve_full (pos_ker hPo)).2
    have hX2 : vl n (s1.at n (plusA n l) j2).x = vl n (s0.at n (plusA n l) j).x := pos_uniq hPo (fin_sol hs1r hF2) (fin_sol hs0r hF)
    rw [← hX] at hcv
    rw [hX2] at hd2
    obtain ⟨da, dk, he⟩ := hd2.shape
    rw [vl_length] at he
    subst he
    skip
    have HFr := Lib.hid hF.2.1
    clear hX hX2 hF2 hF hs1x hs1r hs1p hR0
    have hfar : fcs (runD n (plusA n l) (mEl qb) s0 j j).far = [.int .u64 0, .string ⟨#[]⟩, .bool false, .int .u64 0, .string ⟨#[]⟩] := by
      show fcs (stepD n (plusA n l) (mEl qb) (s0.at n (plusA n l) j) (decide (j = j))).far = _
      rw [decide_eq_true rfl]; rfl
    obtain ⟨E1, E2, E3, E4, E5, hE, hE'⟩ : ∃ A1 A2 A3 A4 A5, fracV (en n (plusA n l) (mEl qb) (s0.at n (plusA n l) j).x) = .agg #[.int .u64 A1, .string A2, .bool A3, .int .u64 A4, .string A5] ∧ fcs (en n (plusA n l) (mEl qb) (s0.at n (plusA n l) j).x) = [.int .u64 A1, .string A2, .bool A3, .int .u64 A4, .string A5] := ⟨_, _, _, _, _, rfl, rfl⟩
    have hE2 : fcs (runD n (plusA n l) (mEl qb) s0 j j).en = [.int .u64 E1, .string E2, .bool E3, .int .u64 E4, .string E5] := hE'
    have k0 := Kj.c0
    have k1 := Kj.c1
    have k2 := Kj.c2
    have kl := Kj.lt
    skip
    have kf0 : wc11.cell? ⟨b, off + j * 13 + 3, none⟩ = some (.int .u64 0) := (Kj.cf 0 (by decide)).trans (congrArg (fun l : List Value => l[0]?) hfar)
    have kf1 : wc11.cell? ⟨b, off + j * 13 + 4, none⟩ = some (.string ⟨#[]⟩) := (Kj.cf 1 (by decide)).trans (congrArg (fun l : List Value => l[1]?) hfar)
    have kf2 : wc11.cell? ⟨b, off + j * 13 + 5, none⟩ = some (.bool false) := (Kj.cf 2 (by decide)).trans (congrArg (fun l : List Value => l[2]?) hfar)
    have kf3 : wc11.cell? ⟨b, off + j * 13 + 6, none⟩ = some (.int .u64 0) := (Kj.cf 3 (by decide)).trans (congrArg (fun l : List Value => l[3]?) hfar)
    have kf4 : wc11.cell? ⟨b, off + j * 13 + 7, none⟩ = some (.string ⟨#[]⟩) := (Kj.cf 4 (by decide)).trans (congrArg (fun l : List Value => l[4]?) hfar)
    have ke0 : wc11.cell? ⟨b, off + j * 13 + 8, none⟩ = some (.int .u64 E1) := (Kj.ce 0 (by decide)).trans (congrArg (fun l : List Value => l[0]?) hE2)
    have ke1 : wc11.cell? ⟨b, off + j * 13 + 9, none⟩ = some (.string E2) := (Kj.ce 1 (by decide)).trans (congrArg (fun l : List Value => l[1]?) hE2)
    have ke2 : wc11.cell? ⟨b, off + j * 13 + 10, none⟩ = some (.bool E3) := (Kj.ce 2 (by decide)).trans (congrArg (fun l : List Value => l[2]?) hE2)
    have ke3 : wc11.cell? ⟨b, off + j * 13 + 11, none⟩ = some (.int .u64 E4) := (Kj.ce 3 (by decide)).trans (congrArg (fun l : List Value => l[3]?) hE2)
    have ke4 : wc11.cell? ⟨b, off + j * 13 + 12, none⟩ = some (.string E5) := (Kj.ce 4 (by decide)).trans (congrArg (fun l : List Value => l[4]?) hE2)
    skip
    clear hfar hE hE' hE2
    have hw1 : IntKind.i64.wrap (((j + 1 : Nat) : Int) - 1) = (j : Int) := by
      rw [show (((j + 1 : Nat) : Int) - 1) = (j : Int) by omega]; exact IntWalk.i64_in _ (by omega)
    have hw1' : IntKind.i64.wrap ((j : Int) + 1 - 1) = (j : Int) := by
      rw [show ((j : Int) + 1 - 1) = (j : Int) by omega]; exact IntWalk.i64_in _ (by omega)
    have hw2 : IntKind.i64.wrap (j : Int) = (j : Int) := IntWalk.i64_in _ (by omega)
    have hw3 : IntKind.i64.wrap ((n : Int) + 1) = (n : Int) + 1 := IntWalk.i64_in _ (by omega)
    have hw4 : ¬ ((j : Int) + 1 < 1) := by omega
    have hw5 : ¬ ((n : Int) + 1 < (j : Int) + 1) := by omega
    have hw6 : (j : Int) < (j : Int) + 1 := by omega
    have hw7 : (0 : Int) ≤ j := by omega
    have hw8 : ¬ ((n : Int) < (j : Int)) := by omega
    have hw9 : ¬ (n < j) := by omega
    ((have y0 := bSb.c0); (have y1 := bSb.c1); (have y2 := bSb.c2); (have yl := bSb.lt))
    go_upto_region 12 with fail
    ((obtain ⟨Lb, hLb⟩ : ∃ z, z = wc11.heap.size := ⟨_, rfl⟩); (have bLb := Bx.new_at wc11 #[.slice xaj n xkj, .slice raj n rkj, .slice paj n pkj, .int .u64 0, .string ⟨#[]⟩, .bool false, .int .u64 0, .string ⟨#[]⟩, .int .u64 E1, .string E2, .bool E3, .int .u64 E4, .string E5] 61 hLb); (clear k0 k1 k2 kl kf0 kf1 kf2 kf3 kf4 ke0 ke1 ke2 ke3 ke4 y0 y1 y2 yl); (replace hin := hin.alloc (.cells #[.slice xaj n xkj, .slice raj n rkj, .slice paj n pkj, .int .u64 0, .string ⟨#[]⟩, .bool false, .int .u64 0, .string ⟨#[]⟩, .int .u64 E1, .string E2, .bool E3, .int .u64 E4, .string E5] 61)); (replace bSb := bSb.alloc (.cells #[.slice xaj n xkj, .slice raj n rkj, .slice paj n pkj, .int .u64 0, .string ⟨#[]⟩, .bool false, .int .u64 0, .string ⟨#[]⟩, .int .u64 E1, .string E2, .bool E3, .int .u64 E4, .string E5] 61)); (replace bMb := bMb.alloc (.cells #[.slice xaj n xkj, .slice raj n rkj, .slice paj n pkj, .int .u64 0, .string ⟨#[]⟩, .bool false, .int .u64 0, .string ⟨#[]⟩, .int .u64 E1, .string E2, .bool E3, .int .u64 E4, .string E5] 61)); (replace bCb := bCb.alloc (.cells #[.slice xaj n xkj, .slice raj n rkj, .slice paj n pkj, .int .u64 0, .string ⟨#[]⟩, .bool false, .int .u64 0, .string ⟨#[]⟩, .int .u64 E1, .string E2, .bool E3, .int .u64 E4, .string E5] 61)); (replace hS := hS.call ((Below.refl _ _).alloc (Nat.le_refl _) (.cells #[.slice xaj n xkj, .slice raj n rkj, .slice paj n pkj, .int .u64 0, .string ⟨#[]⟩, .bool false, .int .u64 0, .string ⟨#[]⟩, .int .u64 E1, .string E2, .bool E3, .int .u64 E4, .string E5] 61))); (replace hvb := hvb.call ((Below.refl _ _).alloc (Nat.le_refl _) (.cells #[.slice xaj n xkj, .slice raj n rkj, .slice paj n pkj, .int .u64 0, .string ⟨#[]⟩, .bool false, .int .u64 0, .string ⟨#[]⟩, .int .u64 E1, .string E2, .bool E3, .int .u64 E4, .string E5] 61))); (replace hvx := hvx.call ((Below.refl _ _).alloc (Nat.le_refl _) (.cells #[.slice xaj n xkj, .slice raj n rkj, .slice paj n pkj, .int .u64 0, .string ⟨#[]⟩, .bool false, .int .u64 0, .string ⟨#[]⟩, .int .u64 E1, .string E2, .bool E3, .int .u64 E4, .string E5] 61))); (replace Kj := Kj.call ((Below.refl _ _).alloc (Nat.le_refl _) (.cells #[.slice xaj n xkj, .slice raj n rkj, .slice paj n pkj, .int .u64 0, .string ⟨#[]⟩, .bool false, .int .u64 0, .string ⟨#[]⟩, .int .u64 E1, .string E2, .bool E3, .int .u64 E4, .string E5] 61))); (replace hcv := hcv.call ((Below.refl _ _).alloc (Nat.le_refl _) (.cells #[.slice xaj n xkj, .slice raj n rkj, .slice paj n pkj, .int .u64 0, .string ⟨#[]⟩, .bool false, .int .u64 0, .string ⟨#[]⟩, .int .u64 E1, .string E2, .bool E3, .int .u64 E4, .string E5] 61))); (replace hd2 := hd2.call ((Below.refl _ _).alloc (Nat.le_refl _) (.cells #[.slice xaj n xkj, .slice raj n rkj, .slice paj n pkj, .int .u64 0, .string ⟨#[]⟩, .bool false, .int .u64 0, .string ⟨#[]⟩, .int .u64 E1, .string E2, .bool E3, .int .u64 E4, .string E5] 61))); (rw [← hLb]); (clear hLb); (generalize wc11.alloc (.cells #[.slice xaj n xkj, .slice raj n rkj, .slice paj n pkj, .int .u64 0, .string ⟨#[]⟩, .bool false, .int .u64 0, .string ⟨#[]⟩, .int .u64 E1, .string E2, .bool E3, .int .u64 E4, .string E5] 61) = W12 at *))
    clear hw1 hw1' hw2 hw3 hw4 hw5 hw6 hw7 hw8 hw9
    ((have q0 := bLb.c0); (have q1 := bLb.c1); (have ql := bLb.lt))
    ((have y0 := bSb.c0); (have y1 := bSb.c1); (have y2 := bSb.c2); (have yl := bSb.lt))
    ((have z0 := bCb.c0); (have z1 := bCb.c1); (have zl := bCb.lt))
    have f1 := vsame_any W12 _ _ _ _ Kj.x hcv (by rw [vl_length]; omega)
    rw [decide_eq_true (show vl n (runD n (plusA n l) (mEl qb) s0 j j).x = vl n (s0.at n (plusA n l) j).x from rfl)] at f1
    ((go_wp2_with fail); (((with_reducible refine (f1).mono ?_))); (rintro e wc13 ⟨rfl, hb⟩); (clear q0 q1 ql y0 y1 y2 yl z0 z1 zl f1); (replace hin := hin.call hb); (replace hS := hS.call hb); (replace hvb := hvb.call hb); (replace hvx := hvx.call hb); (replace Kj := Kj.call hb); (replace hcv := hcv.call hb); (replace hd2 := hd2.call hb); (replace bSb := bSb.call hb); (replace bMb := bMb.call hb); (replace bCb := bCb.call hb); (replace bLb := bLb.call hb); (clear hb))
    ((have z0 := bCb.c0); (have z1 := bCb.c1); (have zl := bCb.lt))
    have f2 := vsame_any wc13 _ _ _ _ hd2 hcv (by rw [vl_length]; omega)
    rw [decide_eq_true rfl] at f2
    ((go_wp2_with fail); (((with_reducible refine (f2).mono ?_))); (rintro e wc14 ⟨rfl, hb⟩); (clear z0 z1 zl f2); (replace hin := hin.call hb); (replace hS := hS.call hb); (replace hvb := hvb.call hb); (replace hvx := hvx.call hb); (replace Kj := Kj.call hb); (replace hcv := hcv.call hb); (replace hd2 := hd2.call hb); (replace bSb := bSb.call hb); (replace bMb := bMb.call hb); (replace bCb := bCb.call hb); (replace bLb := bLb.call hb); (clear hb))
    have sz := hRS.hs j hjn
    have hrj : VecAt wc14 (.slice raj n rkj) (vl n (s0.at n (plusA n l) j).r) := Kj.r
    have e14 := vmax_any (j := 150000000000) wc14 _ (vl n (s0.at n (plusA n l) j).r) hrj (by decide) (fun q hq => by
      obtain ⟨i, hi, rfl⟩ := List.mem_map.1 hq
      exact (sz.r.szk (Nat.le_refl _) (Nat.le_refl _)) i (List.mem_range.1 hi)) (by decide) (by rw [vl_length]; omega)
    have hm0 : maxA (vl n (s0.at n (plusA n l) j).r) = 0 := (vmax_zero n _).2 HFr.out
    obtain ⟨mz, hmz⟩ : ∃ m, m = maxA (vl n (s0.at n (plusA n l) j).r) := ⟨_, rfl⟩
    have hcmp : ∀ W, (binOp .eql 52 (fracV mz) (fracV 0)).run Tryz.prog W = .ok (.bool true) W := fun W => by
      rw [fracEq_run, decide_eq_true (by rw [hmz]; exact hm0)]
    rw [← hmz] at e14
    obtain ⟨Z1, Z2, Z3, Z4, Z5, hZ, hZ'⟩ : ∃ A1 A2 A3 A4 A5, fracV mz = .agg #[.int .u64 A1, .string A2, .bool A3, .int .u64 A4, .string A5] ∧ fcs mz = [.int .u64 A1, .string A2, .bool A3, .int .u64 A4, .string A5] := ⟨_, _, _, _, _, rfl, rfl⟩
    rw [hZ] at e14 hcmp
    replace hcmp : ∀ W, (binOp .eql 52 (.agg #[.int .u64 Z1, .string Z2, .bool Z3, .int .u64 Z4, .string Z5]) (.agg #[.int .u64 0, .string ⟨#[]⟩, .bool false, .int .u64 0, .string ⟨#[]⟩])).run Tryz.prog W = .ok (.bool true) W := hcmp
    clear hmz hZ hZ' hm0 sz hrj
    ((have q0 := bLb.c0); (have q1 := bLb.c1); (have ql := bLb.lt))
    ((go_wp2_with fail); (((with_reducible refine (e14).mono ?_))); (rintro e wc15 ⟨rfl, hb⟩); (clear q0 q1 ql e14); (replace hin := hin.call hb); (replace hS := hS.call hb); (replace hvb := hvb.call hb); (replace hvx := hvx.call hb); (replace Kj := Kj.call hb); (replace hcv := hcv.call hb); (replace hd2 := hd2.call hb); (replace bSb := bSb.call hb); (replace bMb := bMb.call hb); (replace bCb := bCb.call hb); (replace bLb := bLb.call hb); (clear hb))
    ((go_wp2_with fail); (((with_reducible refine (cz _).mono ?_))); (rintro e wc16 ⟨rfl, hb⟩); (clear hcmp); (replace hin := hin.call hb); (replace hS := hS.call hb); (replace hvb := hvb.call hb); (replace hvx := hvx.call hb); (replace Kj := Kj.call hb); (replace hcv := hcv.call hb); (replace hd2 := hd2.call hb); (replace bSb := bSb.call hb); (replace bMb := bMb.call hb); (replace bCb := bCb.call hb); (replace bLb := bLb.call hb); (clear hb))
    go_wp2_with fail
    go_ret
    exact ⟨rfl, hin.bel⟩
end Gus
end
section
/- Proved: whatever the positive definite matrix, the right-hand side and the start, gussetlaw19.CgsEnds returns true, and the arguments read as before. Conditions: the three listed tables hold what the program's text lays (the card ties them). -/
namespace Go.Proofs.YtjbclomfocnplaaGreatDoor
open Go Go.RowKit Go.ChangeShapes Go.WideShapes Go.ChangeAt Gus
namespace End
theorem params_ok : ∀ t ∈ Tryz.f8.params.toList, Tryz.prog.readableRec t = true ∧ t < Tryz.prog.types.size := by
  rw [Tryz.params8]
  intro t ht
  simp only [List.mem_cons, List.not_mem_nil, or_false] at ht
  rcases ht with rfl | rfl | rfl <;> exact ⟨by kernel_rfl, of_decide_eq_true (by kernel_rfl)⟩
set_option maxRecDepth 100000 in
theorem contract (H : Type) (enc : TypeId × Value → H) (W : World) (base : Nat) (args : Array Value) (ds gs : List (DataW H)) (before : List MemPlace)
    (hval : ∀ (j : Nat) t v, Tryz.f8.params[j]? = some t → args[j]? = some v → Value.okWide Tryz.prog W .any base t v)
    (hW : DataW.Whole enc Tryz.prog Tryz.f8.params.toList Rows.cgsEndsSpec.vars false W args.toList ds gs before) :
    Calls Tryz.prog 8 args W fun e W' => ∃ v, e = .returned v ∧ Rows.cgsEndsSpec.post enc Tryz.prog Tryz.f8 false true false false W args v W' := by
  have hW' := hW
  have hlt := hW.lt
  obtain ⟨p, q, hA0, hV, rfl, hfz, hnd⟩ := hW
  have hA1 : DataW.TrodAll enc Tryz.prog W 0 (fun _ => true) true Tryz.f8.params.toList args.toList ds p := hA0
  have hA := hA1
  rw [Tryz.params8] at hA hval
  obtain ⟨v0, vs0, d0, ds0, p0, q0, hargs, rfl, rfl, h0, r0⟩ := trodAll_cons hA
  obtain ⟨v1, vs1, d1, ds1, p1, q1, rfl, rfl, rfl, h1, r1⟩ := trodAll_cons r0
  obtain ⟨v2, vs2, d2, ds2, p2, q2, rfl, rfl, rfl, h2, r2⟩ := trodAll_cons r1
  obtain ⟨rfl, rfl, rfl⟩ := trodAll_nil r2
  obtain rfl : args = #[v0, v1, v2] := by cases args; simp_all
  obtain ⟨rfl, rfl⟩ := trodVars_none hV
  obtain ⟨N0, a0, l0, k0, rfl, hN0, hq0, ho0, hl0⟩ := open_s (hval 0 24 v0 (by rfl) (by rfl)) h0
  obtain ⟨a1, q1, k1, rfl, hq1, ho1, hl1⟩ := open_vec (hval 1 25 v1 (by rfl) (by rfl)) h1
  obtain ⟨a2, q2, k2, rfl, hq2, ho2, hl2⟩ := open_vec (hval 2 25 v2 (by rfl) (by rfl)) h2
  refine (ends_any W N0 hN0 a0 k0 l0 hq0 ho0 hl0 a1 a2 k1 k2 q1 q2 hq1 hq2 ho1 ho2 hl1 hl2).mono fun e W' ⟨he, hb⟩ => ?_
  subst he
  exact ⟨_, rfl, row_end (pv := []) hb hW' rfl (fun sp hsp => args_stay hb params_ok hA1 (fun x hx => hlt x (List.mem_append.2 (.inl hx))) (fun x hx => hsp x (List.mem_append.2 (.inl hx)))) (fun _ _ => rfl)
    (fun _ _ _ => trodAll_cons_mk (shut_bool Tryz.underlying4 _) trodAll_mk0) (ok_one (by kernel_rfl) rfl (okWide_bool_mk Tryz.underlying4 _))⟩
abbrev input : Array Value := #[.agg #[.int .u8 0, .slice none 0 0], .slice none 0 0, .slice none 0 0]
theorem laid_met (os : Os) : laidMet Tryz.prog Rows.cgsEndsRow.laid ((laidW os).forCall (fun _ _ => 0) ⟨#[], input, []⟩).memory :=
  laidMet_of_run' 8 (by kernel_rfl) (by kernel_rfl)
theorem reads (os : Os) {H : Type} (enc : TypeId × Value → H) : ∃ places, DataW.whole enc Tryz.prog ((laidW os).forCall (fun _ _ => 0) ⟨#[], input, []⟩).memory Tryz.f8.params.toList Rows.cgsEndsSpec.vars false input.toList 8 = some ([.agg [.lit (.int .u8 0), .nil], .nil, .nil], [], places) :=
  ⟨[], by kernel_rfl⟩
set_option maxRecDepth 100000 in
theorem lifted (os : Os) (started : os.Started) (H : Type) (enc : TypeId × Value → H) (F : Stop.Interp) :
    ReturnsInHanded {} Tryz.checked os 8 .any ((OpenSpec.ofChange Rows.cgsEndsSpec).preRow enc Tryz.prog Tryz.f8 Rows.cgsEndsRow.domain false Rows.cgsEndsRow.laid) (((OpenSpec.ofChange Rows.cgsEndsSpec).at F).post enc Tryz.prog Tryz.f8 false true false false) := by
  obtain ⟨places, hx⟩ := reads os enc
  refine returnsInHanded_of_row (C := Tryz.checked) (s := OpenSpec.ofChange Rows.cgsEndsSpec) ownK started (by kernel_rfl) Tryz.func8
    (witness_row_at (enc := enc) (C := Tryz.checked) false (laidW os) input rfl (by kernel_rfl) (by kernel_rfl) (by kernel_rfl)
      (OpenSpec.preRow_of_cond 8 hx (by kernel_rfl) (fun k hk => by cases hk) (by kernel_rfl) (laid_met os))) ?_
  intro W base args ds gs before hval hW _ _ _ _ _ _
  exact contract H enc W base args ds gs before hval hW
theorem h_named : Tryz.pinned.checked.prog.funcNamed Rows.cgsEndsRow.func = some 8 := by kernel_rfl
theorem h_closed : joinedFacts Tryz.pinned.checked.prog 8 Tryz.f8 (OpenSpec.ofChange Rows.cgsEndsSpec).bare Rows.cgsEndsRow = true := by kernel_rfl
theorem h_inst : Tryz.f8.isInstance Tryz.pinned.checked.prog Rows.cgsEndsRow.origin Rows.cgsEndsRow.targs := of_decide_eq_true (by kernel_rfl)
theorem h_wrap : Tryz.f8.isWrapper Tryz.pinned.checked.prog Rows.cgsEndsRow.wrapper Rows.cgsEndsRow.mainSum := by unfold Func.isWrapper; first | (rw [if_pos (by decide +kernel)]; kernel_rfl) | (rw [if_neg (by decide +kernel)]; exact ⟨rfl, rfl⟩)
theorem said : Rows.CgsEndsSaid :=
  OpenClaim.holds_of_cond 8 Tryz.f8 rfl rfl rfl rfl rfl rfl rfl ⟨rfl, rfl, rfl, rfl, rfl⟩ rfl rfl rfl rfl rfl h_named Tryz.func8 h_closed h_inst h_wrap
    (fun os started H enc _ F => by rw [OpenClaim.pre_eq_preRow]; exact lifted os started H enc F)
theorem plain (f : FuncId) (fn : Func) (hf : Tryz.pinned.checked.prog.funcNamed "gusset/gussetlaw19.CgsEnds" = some f) (hfn : Tryz.pinned.checked.prog.funcs[f]? = some fn) :
    false = Tryz.pinned.checked.prog.looks [] ∧ ∀ (j : Nat) t, fn.params[j]? = some t → Tryz.pinned.checked.prog.wantsStandIn t = false := by
  obtain rfl : f = 8 := Option.some.inj ((show Tryz.prog.funcNamed "gusset/gussetlaw19.CgsEnds" = some 8 by kernel_rfl).symm.trans hf) |>.symm
  obtain rfl : fn = Tryz.f8 := (Option.some.inj (Tryz.func8.symm.trans hfn)).symm
  refine ⟨by kernel_rfl, fun j t ht => ?_⟩
  have hm := Array.mem_of_getElem? ht
  rw [Tryz.params8] at hm
  simp only [List.mem_toArray, List.mem_cons, List.not_mem_nil, or_false] at hm
  rcases hm with rfl | rfl | rfl
  · exact (show Tryz.prog.wantsStandIn 24 = false by kernel_rfl)
  · exact (show Tryz.prog.wantsStandIn 25 = false by kernel_rfl)
  · exact (show Tryz.prog.wantsStandIn 25 = false by kernel_rfl)
end End
/-- the card -/
theorem ends_card : Rows.CgsEndsCardSaid :=
  Claim7.holds_tied_plain_at .later [] _ _ _ _ End.said (fun _ h => by cases h) (by kernel_rfl) (fun _ h => by cases h) cgsEnds_row_tie rfl ⟨rfl, rfl⟩ (by kernel_rfl) rfl End.plain (by kernel_rfl)
end Go.Proofs.YtjbclomfocnplaaGreatDoor
end
