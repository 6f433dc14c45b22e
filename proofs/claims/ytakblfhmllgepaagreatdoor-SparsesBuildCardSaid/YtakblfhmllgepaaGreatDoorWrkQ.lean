/- Proved here: parts of the proof: Wrk Same SameB. Conditions: those that each theorem states. -/
import Derived.Test.YtakblfhmllgepaaGreatDoorShelfVQ
section
/- The chapter's example. -/
namespace Gus
open Go Go.RowKit Go.Proofs
theorem BB.call {w w' : World} {p b n N M : Nat} {f : Nat → Nat → Rat} (h : BB w p b n N M f) (hb : Below w.heap.size w w') : BB w' p b n N M f := ⟨h.1.call hb, h.2.call hb⟩
theorem BB.alloc {w : World} {p b n N M : Nat} {f : Nat → Nat → Rat} (h : BB w p b n N M f) (o : Obj) : BB (w.alloc o) p b n N M f := ⟨h.1.alloc o, h.2.alloc o⟩
theorem BB.ext {w : World} {p b n N M : Nat} {f g : Nat → Nat → Rat} (h : BB w p b n N M f) (hg : ∀ i k, i < N → k < M → g i k = f i k) : BB w p b n N M g := ⟨h.1, h.2.ext hg⟩
theorem In.grown {N : Nat} {W0 w w' : World} {b : Nat} (h : In N W0 w) (hg : w.grownBy w' (some b)) (hb : N ≤ b) : In N W0 w' :=
  ⟨h.bel.grown hg h.siz (fun k h => by cases h; exact hb), Nat.le_trans h.siz hg.size⟩
set_option maxRecDepth 100000 in
set_option maxHeartbeats 4000000 in
theorem works_any (w : World) : Calls Tryz.prog 4 #[] w fun e w' => e = .returned (.bool true) ∧ Below w.heap.size w w' := by
  have c1 : ∀ W, Calls Tryz.prog 5 #[.int .i64 2, .int .i64 3] W fun e w' => ∃ b, e = .returned (.tuple #[.pointer (some ⟨b + 1, 0, none⟩), .int .i64 0]) ∧ W.heap.size ≤ b ∧ BB w' (b + 1) b 0 2 3 (fun _ _ => 0) ∧ Below W.heap.size W w' := fun W => new_ok 2 3 (by decide) (by decide) W
  have c2 := fracOf_any 1 2 (by decide) (by decide) (by decide) (by decide) (by decide)
  obtain ⟨q, hq⟩ : ∃ q : Rat, q = ((1 : Int) : Rat) / ((2 : Int) : Rat) := ⟨_, rfl⟩
  rw [← hq] at c2
  obtain ⟨A1, A2, A3, A4, A5, hA⟩ : ∃ A1 A2 A3 A4 A5, fracV q = .agg #[.int .u64 A1, .string A2, .bool A3, .int .u64 A4, .string A5] := ⟨_, _, _, _, _, rfl⟩
  rw [hA] at c2
  have HQ := Lib.hid hq
  have HA := Lib.hid hA
  clear hq hA
  obtain ⟨X, hX⟩ : ∃ X, X = w.heap.size := ⟨_, rfl⟩
  have HX := Lib.hid hX
  go_enter Tryz.func4, Tryz.ntmps4
  go_wp2_with fail
  ((with_reducible refine (c1 _).mono ?_))
  rintro e w1 ⟨b, rfl, hb, hB, hbel⟩
  have hin : In X w w1 := by rw [hX]; exact (In.self w).call hbel
  rw [← hX] at hb
  clear hbel hX
  go_wp2_with fail
  ((with_reducible refine (c2 _).mono ?_))
  rintro e w2 ⟨rfl, hbel⟩
  replace hin := hin.call hbel
  replace hB := hB.call hbel
  clear hbel c1 c2
  go_upto_region 5 with fail
  obtain ⟨hh, hhe⟩ : ∃ hh, hh = w2.heap.size := ⟨_, rfl⟩
  have bh := Bx.new_at w2 #[.int .u64 A1, .string A2, .bool A3, .int .u64 A4, .string A5] 56 hhe
  replace hB := hB.alloc (.cells #[.int .u64 A1, .string A2, .bool A3, .int .u64 A4, .string A5] 56)
  have hbh : b + 1 < hh := by
    rw [hhe]
    have h0 := hB.1.lt
    rw [World.size_alloc] at h0
    have h1 := hB.1
    refine Decidable.by_contra fun hn => ?_
    have h2 : b + 1 = w2.heap.size := by omega
    rw [h2] at h1
    have h3 := Bx.new_at w2 #[.int .u64 A1, .string A2, .bool A3, .int .u64 A4, .string A5] 56 rfl
    unfold Bx at h1 h3
    rw [h1] at h3
    simp at h3
  replace hin := hin.alloc (.cells #[.int .u64 A1, .string A2, .bool A3, .int .u64 A4, .string A5] 56)
  rw [← hhe]
  clear hhe
  generalize w2.alloc (.cells #[.int .u64 A1, .string A2, .bool A3, .int .u64 A4, .string A5] 56) = W0 at *
  -- the four additions
  have a1 : Calls Tryz.prog 9 #[.pointer (some ⟨b + 1, 0, none⟩), .int .i64 0, .int .i64 2, .agg #[.int .u64 A1, .string A2, .bool A3, .int .u64 A4, .string A5]] W0 fun e w' => e = .returned (.int .i64 0) ∧ BB w' (b + 1) b 1 2 3 wf1 ∧ W0.grownBy w' (some b) := by
    rw [← HA.out]
    refine (badd_in (s := 1) (j := 4) W0 (b + 1) b 0 2 3 _ 0 2 q hB (by decide) (by decide) (by decide) (by decide) (by decide) (by omega) SzK.zero (by rw [HQ.out]; constructor <;> decide +kernel) (by decide)).mono ?_
    rintro e w' ⟨rfl, h1, h2⟩
    exact ⟨rfl, h1.ext fun i k hi hk => by rw [wf1_eq i k hi hk, HQ.out]; rfl, h2⟩
  have h0 := bh.c0
  have h1 := bh.c1
  have h2 := bh.c2
  have h3 := bh.c3
  have h4 := bh.c4
  have hl := bh.lt
  go_wp2_with fail
  ((with_reducible refine a1.mono ?_))
  rintro e w3 ⟨rfl, hB, hg⟩
  replace hin := hin.grown hg hb
  replace bh := bh.grown hg (by simp; omega)
  clear a1 hg h0 h1 h2 h3 h4 hl
  have c3 := fracInt_any 1 (by decide) (by decide)
  obtain ⟨q3, hq3⟩ : ∃ q3 : Rat, q3 = ((1 : Int) : Rat) := ⟨_, rfl⟩
  rw [← hq3] at c3
  have HQ3 := Lib.hid hq3
  clear hq3
  go_wp2_with fail
  ((with_reducible refine (c3 _).mono ?_))
  rintro e w4 ⟨rfl, hbel⟩
  replace hin := hin.call hbel
  replace bh := bh.call hbel
  replace hB := hB.call hbel
  clear hbel c3
  have a2 : ∀ W, BB W (b + 1) b 1 2 3 wf1 → Calls Tryz.prog 9 #[.pointer (some ⟨b + 1, 0, none⟩), .int .i64 0, .int .i64 0, fracV q3] W fun e w' => e = .returned (.int .i64 0) ∧ BB w' (b + 1) b 2 2 3 wf2 ∧ W.grownBy w' (some b) := by
    intro W hB
    rw [HQ3.out]
    refine (badd_in (s := 4) (j := 4) W (b + 1) b 1 2 3 _ 0 0 ((1 : Int) : Rat) hB (by decide) (by decide) (by decide) (by decide) (by decide) (by omega) (by constructor <;> decide +kernel) (by constructor <;> decide +kernel) (by decide)).mono ?_
    rintro e w' ⟨rfl, h1, h2⟩
    exact ⟨rfl, h1.ext fun i k hi hk => by rw [wf2_eq i k hi hk]; rfl, h2⟩
  go_wp2_with fail
  ((with_reducible refine (a2 _ hB).mono ?_))
  rintro e w5 ⟨rfl, hB, hg⟩
  replace hin := hin.grown hg hb
  replace bh := bh.grown hg (by simp; omega)
  clear a2 hg
  have c4 := fracInt_any 5 (by decide) (by decide)
  obtain ⟨q4, hq4⟩ : ∃ q4 : Rat, q4 = ((5 : Int) : Rat) := ⟨_, rfl⟩
  rw [← hq4] at c4
  have HQ4 := Lib.hid hq4
  clear hq4
  go_wp2_with fail
  ((with_reducible refine (c4 _).mono ?_))
  rintro e w6 ⟨rfl, hbel⟩
  replace hin := hin.call hbel
  replace bh := bh.call hbel
  replace hB := hB.call hbel
  clear hbel c4
  have a3 : ∀ W, BB W (b + 1) b 2 2 3 wf2 → Calls Tryz.prog 9 #[.pointer (some ⟨b + 1, 0, none⟩), .int .i64 1, .int .i64 1, fracV q4] W fun e w' => e = .returned (.int .i64 0) ∧ BB w' (b + 1) b 3 2 3 wf3 ∧ W.grownBy w' (some b) := by
    intro W hB
    rw [HQ4.out]
    refine (badd_in (s := 4) (j := 4) W (b + 1) b 2 2 3 _ 1 1 ((5 : Int) : Rat) hB (by decide) (by decide) (by decide) (by decide) (by decide) (by omega) (by constructor <;> decide +kernel) (by constructor <;> decide +kernel) (by decide)).mono ?_
    rintro e w' ⟨rfl, h1, h2⟩
    exact ⟨rfl, h1.ext fun i k hi hk => by rw [wf3_eq i k hi hk]; rfl, h2⟩
  go_wp2_with fail
  ((with_reducible refine (a3 _ hB).mono ?_))
  rintro e w7 ⟨rfl, hB, hg⟩
  replace hin := hin.grown hg hb
  replace bh := bh.grown hg (by simp; omega)
  clear a3 hg
  have c5 := fracInt_any (-5) (by decide) (by decide)
  obtain ⟨q5, hq5⟩ : ∃ q5 : Rat, q5 = (((-5) : Int) : Rat) := ⟨_, rfl⟩
  rw [← hq5] at c5
  have HQ5 := Lib.hid hq5
  clear hq5
  go_wp2_with fail
  ((with_reducible refine (c5 _).mono ?_))
  rintro e w8 ⟨rfl, hbel⟩
  replace hin := hin.call hbel
  replace bh := bh.call hbel
  replace hB := hB.call hbel
  clear hbel c5
  have a4 : ∀ W, BB W (b + 1) b 3 2 3 wf3 → Calls Tryz.prog 9 #[.pointer (some ⟨b + 1, 0, none⟩), .int .i64 1, .int .i64 1, fracV q5] W fun e w' => e = .returned (.int .i64 0) ∧ BB w' (b + 1) b 4 2 3 wf2 ∧ W.grownBy w' (some b) := by
    intro W hB
    rw [HQ5.out]
    refine (badd_in (s := 4) (j := 4) W (b + 1) b 3 2 3 _ 1 1 ((-5 : Int) : Rat) hB (by decide) (by decide) (by decide) (by decide) (by decide) (by omega) (by constructor <;> decide +kernel) (by constructor <;> decide +kernel) (by decide)).mono ?_
    rintro e w' ⟨rfl, h1, h2⟩
    exact ⟨rfl, h1.ext fun i k hi hk => by rw [wf4_eq i k hi hk], h2⟩
  go_wp2_with fail
  ((with_reducible refine (a4 _ hB).mono ?_))
  rintro e w9 ⟨rfl, hB, hg⟩
  replace hin := hin.grown hg hb
  replace bh := bh.grown hg (by simp; omega)
  clear a4 hg
  have c6 := bsparse_any w9 (b + 1) b _ 2 3 _ hB (by decide) (by decide)
  go_wp2_with fail
  ((with_reducible refine c6.mono ?_))
  rintro e w10 ⟨v, rfl, hv, hbel⟩
  have hXw := hin.siz
  replace hin := hin.call hbel
  replace bh := bh.call hbel
  replace hB := hB.call hbel
  clear hbel c6
  have hs : SpM w10 v 2 3 wf2 := SpN.m hv
  clear hv
  obtain ⟨va, vc, rfl⟩ := hs.shape
  have HSP := Lib.hid hs
  have HBB := Lib.hid hB
  clear hs hB
  go_upto_region 10 with fail
  obtain ⟨s, hs⟩ : ∃ s, s = w10.heap.size := ⟨_, rfl⟩
  have hc2 : (2 : Int) = ((2 : Nat) : Int) := rfl
  have bs := Bx.new_at w10 #[.int .i64 2, .int .i64 3, .slice va 2 vc] 63 hs
  have hS10 : SpM (w10.alloc (.cells #[.int .i64 2, .int .i64 3, .slice va 2 vc] 63)) (.agg #[.int .i64 2, .int .i64 3, .slice va 2 vc]) 2 3 wf2 := HSP.out.call ((Below.refl _ _).alloc (Nat.le_refl _) _)
  have hB10 := HBB.out.alloc (.cells #[.int .i64 2, .int .i64 3, .slice va 2 vc] 63)
  replace bh := bh.alloc (.cells #[.int .i64 2, .int .i64 3, .slice va 2 vc] 63)
  replace hin := hin.alloc (.cells #[.int .i64 2, .int .i64 3, .slice va 2 vc] 63)
  rw [← hs]
  clear hc2 HSP HBB hs
  try simp only [Nat.cast_ofNat]
  generalize w10.alloc (.cells #[.int .i64 2, .int .i64 3, .slice va 2 vc] 63) = W1 at *
  have HSP := Lib.hid hS10
  have HBB := Lib.hid hB10
  have HBH := Lib.hid bh
  have HIN := Lib.hid hin
  clear hS10 hB10 bh hin
  refine wp_region_mixL (fun w' => w'.cell? ⟨s, 0, none⟩ = some (.int .i64 2) ∧ w'.cell? ⟨s, 1, none⟩ = some (.int .i64 3) ∧ w'.cell? ⟨s, 2, none⟩ = some (.slice va 2 vc)) 8 [(0, true), (1, false), (2, false), (3, false), (4, true), (5, true), (6, true), (7, false), (8, false)] (by kernel_rfl) (by kernel_rfl) (by kernel_rfl) (by kernel_rfl) (by kernel_rfl) (by kernel_rfl) (by kernel_rfl) (by kernel_rfl) (fun _ _ d _ _ h => by cases d <;> exact h) ?_ ?_
  · exact ⟨bs.c0, bs.c1, bs.c2⟩
  (apply mixL_take; (focus rfl); (focus rfl); (focus (intro w' hw'; obtain ⟨s0, s1, s2⟩ := hw'; go_simp; exact rfl)); (try simp only [Act.put]); (try simp only [List.setIfInBounds_toArray]); (try simp only [List.set]))
  have bs2 := bs.drew
  have HSP2 := Lib.hid (show SpM W1.drew _ 2 3 wf2 from HSP.out)
  have HBB2 := Lib.hid (show BB W1.drew (b + 1) b 4 2 3 wf2 from HBB.out)
  have HBH2 := Lib.hid (show Bx W1.drew hh _ _ from HBH.out)
  have HIN2 := Lib.hid HIN.out.drew
  clear HSP HBB HBH HIN bs
  generalize W1.drew = W2 at *
  (apply mixL_run; (focus rfl); (focus rfl); intro K hK; go_simp)
  refine hK _ _ (fun _ => ⟨(bs2.alloc _).c0, (bs2.alloc _).c1, (bs2.alloc _).c2⟩) ?_
  clear hK K
  obtain ⟨l, hl⟩ : ∃ l, l = W2.heap.size := ⟨_, rfl⟩
  have bl := Bx.new_at W2 #[.int .i64 2, .int .i64 0, .int .i64 4] 2 hl
  have bs3 := bs2.alloc (.cells #[.int .i64 2, .int .i64 0, .int .i64 4] 2)
  have HSP := Lib.hid (HSP2.out.call ((Below.refl _ _).alloc (Nat.le_refl _) (.cells #[.int .i64 2, .int .i64 0, .int .i64 4] 2)))
  have HBB := Lib.hid (HBB2.out.alloc (.cells #[.int .i64 2, .int .i64 0, .int .i64 4] 2))
  have HBH := Lib.hid (HBH2.out.alloc (.cells #[.int .i64 2, .int .i64 0, .int .i64 4] 2))
  have HIN := Lib.hid (HIN2.out.alloc (.cells #[.int .i64 2, .int .i64 0, .int .i64 4] 2))
  rw [← hl]
  clear hl HSP2 HBB2 HBH2 HIN2 bs2
  generalize W2.alloc (.cells #[.int .i64 2, .int .i64 0, .int .i64 4] 2) = W3 at *
  have c7 := vof_any W3 (some ⟨l, 0, none⟩) 3 [2, 0, 4] (fun i hi => ⟨l, 0, rfl, bl.lt, by
    have h3 : i = 0 ∨ i = 1 ∨ i = 2 := by simp at hi; omega
    rw [bl.cell]
    rcases h3 with rfl | rfl | rfl <;> rfl⟩) (by decide) (fun i => by
    by_cases hi : i < 3
    · have h3 : i = 0 ∨ i = 1 ∨ i = 2 := by omega
      rcases h3 with rfl | rfl | rfl <;> decide
    · rw [List.getD_eq_getElem?_getD, List.getElem?_eq_none (by simp; omega)]; decide)
  rw [show ((List.range [(2 : Int), 0, 4].length).map fun i => (([(2 : Int), 0, 4].getD i 0 : Int) : Rat)) = [2, 0, 4] by decide +kernel, show [(2 : Int), 0, 4].length = 3 from rfl] at c7
  clear bl
  (apply mixL_run; (focus rfl); (focus rfl); intro K hK; go_simp)
  ((with_reducible refine c7.mono ?_))
  rintro e W4 ⟨g, rfl, hg, hv, hbel⟩
  have bs4 := bs3.call hbel
  refine hK _ _ (fun _ => ⟨bs4.c0, bs4.c1, bs4.c2⟩) ?_
  have HSP2 := Lib.hid (HSP.out.call hbel)
  have HBB2 := Lib.hid (HBB.out.call hbel)
  have HBH2 := Lib.hid (HBH.out.call hbel)
  have HIN2 := Lib.hid (HIN.out.call hbel)
  clear hK K HSP HBB HBH HIN bs3 hbel c7
  (try simp only [Act.put]); (try simp only [List.setIfInBounds_toArray]); (try simp only [List.set])
  have c8 := apply_ok (j := 4) (l := 4) W4 (.agg #[.int .i64 2, .int .i64 3, .slice va 2 vc]) (.slice (some ⟨g, 0, none⟩) 3 3) 2 3 wf2 [2, 0, 4] HSP2.out (VBx.at hv 3 rfl 3) (by decide) (by decide) rfl wf2_size (fun k => by
    by_cases hk : k < 3
    · rcases three hk with rfl | rfl | rfl <;> constructor <;> decide +kernel
    · rw [List.getD_eq_getElem?_getD, List.getElem?_eq_none (by simp; omega)]; constructor <;> decide +kernel) (by decide)
  rw [wf_app] at c8
  clear hv hg
  (apply mixL_run; (focus rfl); (focus rfl); intro K hK; go_simp)
  ((with_reducible refine c8.mono ?_))
  rintro e W5 ⟨g2, rfl, hg2, hv2, hbel⟩
  have bs5 := bs4.call hbel
  refine hK _ _ (fun _ => ⟨bs5.c0, bs5.c1, bs5.c2⟩) ?_
  have HSP := Lib.hid (HSP2.out.call hbel)
  have HBB := Lib.hid (HBB2.out.call hbel)
  have HBH := Lib.hid (HBH2.out.call hbel)
  have HIN := Lib.hid (HIN2.out.call hbel)
  have HV := Lib.hid (VBx.at hv2 2 rfl 2)
  clear hK K HSP2 HBB2 HBH2 HIN2 bs4 hbel c8 hv2
  (try simp only [Act.put]); (try simp only [List.setIfInBounds_toArray]); (try simp only [List.set])
  (repeat (apply mixL_take; (focus rfl); (focus rfl); (focus (intro w' hw'; obtain ⟨s0, s1, s2⟩ := hw'; go_simp; exact rfl)); (try simp only [Act.put]); (try simp only [List.setIfInBounds_toArray]); (try simp only [List.set])))
  (apply mixL_run; (focus rfl); (focus rfl); intro K hK; go_simp)
  refine hK _ _ (fun _ => ⟨bs5.c0, bs5.c1, bs5.c2⟩) ?_
  clear hK K
  (try simp only [Act.put]); (try simp only [List.setIfInBounds_toArray]); (try simp only [List.set])
  (apply mixL_run; (focus rfl); (focus rfl); intro K hK; go_simp)
  refine hK _ _ (fun h => absurd h (by decide)) ?_
  clear hK K
  refine mixL_done ?_
  have s0 := bs5.c0
  have s1 := bs5.c1
  have s2 := bs5.c2
  have hsl := bs5.lt
  have c9 := turn_any (j := 4) W5 (.agg #[.int .i64 2, .int .i64 3, .slice va 2 vc]) 2 3 wf2 HSP.out (by decide) (by decide) wf2_size (by decide)
  go_wp2_with fail
  ((with_reducible refine c9.mono ?_))
  rintro e W6 ⟨tv, rfl, htv, hbel⟩
  have ht0 : SpM W6 tv 3 2 (fun k i => wf2 i k) := htv.m
  obtain ⟨ta, tc, rfl⟩ := ht0.shape
  have bs6 := bs5.call hbel
  have HSP2 := Lib.hid (HSP.out.call hbel)
  have HBB2 := Lib.hid (HBB.out.call hbel)
  have HBH2 := Lib.hid (HBH.out.call hbel)
  have HIN2 := Lib.hid (HIN.out.call hbel)
  have HV2 := Lib.hid (HV.out.call hbel)
  have HT := Lib.hid ht0
  clear c9 htv hbel ht0 HSP HBB HBH HIN HV bs5 s0 s1 s2 hsl
  have c10 : ∀ W, Calls Tryz.prog 5 #[.int .i64 (-1), .int .i64 2049] W fun e w' => e = .returned (.tuple #[.pointer none, .int .i64 1]) ∧ Below W.heap.size W w' := fun W => new_bad (-1) 2049 (by decide) W
  have c11 : ∀ W, Calls Tryz.prog 5 #[.int .i64 2049, .int .i64 0] W fun e w' => e = .returned (.tuple #[.pointer none, .int .i64 3]) ∧ Below W.heap.size W w' := fun W => new_bad 2049 0 (by decide) W
  go_wp2_with fail
  obtain ⟨tt, htt⟩ : ∃ tt, tt = W6.heap.size := ⟨_, rfl⟩
  have bt := Bx.new_at W6 #[.int .i64 3, .int .i64 2, .slice ta 3 tc] 63 htt
  have bs7 := bs6.alloc (.cells #[.int .i64 3, .int .i64 2, .slice ta 3 tc] 63)
  have hT7 : SpM (W6.alloc (.cells #[.int .i64 3, .int .i64 2, .slice ta 3 tc] 63)) (.agg #[.int .i64 3, .int .i64 2, .slice ta 3 tc]) 3 2 (fun k i => wf2 i k) := HT.out.call ((Below.refl _ _).alloc (Nat.le_refl _) _)
  have hS7 := HSP2.out.call ((Below.refl _ _).alloc (Nat.le_refl _) (.cells #[.int .i64 3, .int .i64 2, .slice ta 3 tc] 63))
  have hB7 := HBB2.out.alloc (.cells #[.int .i64 3, .int .i64 2, .slice ta 3 tc] 63)
  have hH7 := HBH2.out.alloc (.cells #[.int .i64 3, .int .i64 2, .slice ta 3 tc] 63)
  have hI7 := HIN2.out.alloc (.cells #[.int .i64 3, .int .i64 2, .slice ta 3 tc] 63)
  have hV7 := HV2.out.call ((Below.refl _ _).alloc (Nat.le_refl _) (.cells #[.int .i64 3, .int .i64 2, .slice ta 3 tc] 63))
  rw [← htt]
  clear htt HT HSP2 HBB2 HBH2 HIN2 HV2 bs6
  generalize W6.alloc (.cells #[.int .i64 3, .int .i64 2, .slice ta 3 tc] 63) = W7 at *
  ((with_reducible refine (c10 _).mono ?_))
  rintro e W8 ⟨rfl, hbel⟩
  replace bt := bt.call hbel
  have bs8 := bs7.call hbel
  replace hT7 := hT7.call hbel
  replace hS7 := hS7.call hbel
  replace hB7 := hB7.call hbel
  replace hH7 := hH7.call hbel
  replace hI7 := hI7.call hbel
  replace hV7 := hV7.call hbel
  clear c10 hbel bs7
  go_wp2_with fail
  ((with_reducible refine (c11 _).mono ?_))
  rintro e W9 ⟨rfl, hbel⟩
  replace bt := bt.call hbel
  have bs9 := bs8.call hbel
  replace hT7 := hT7.call hbel
  replace hS7 := hS7.call hbel
  replace hB7 := hB7.call hbel
  replace hH7 := hH7.call hbel
  replace hI7 := hI7.call hbel
  replace hV7 := hV7.call hbel
  clear c11 hbel bs8
  have hr : ∀ w0 i k, RatTx w0 (wf2 i k) ∧ (ratT (wf2 i k)).length ≤ 10 := fun w0 i k => by
    refine ratTx_small w0 _ ?_ ?_ <;> rcases wf2_cases i k with h | h | h <;> rw [h] <;> decide +kernel
  have c12 := stext_any W9 W9 _ 2 3 wf2 10 hS7 (In.self _) (by decide) (by decide) (by decide) (fun i k _ _ => hr W9 i k)
  rw [wf_text] at c12
  have s0 := bs9.c0
  have s1 := bs9.c1
  have s2 := bs9.c2
  have hsl := bs9.lt
  go_wp2_with fail
  ((with_reducible refine c12.mono ?_))
  rintro e W10 ⟨rfl, hbel⟩
  replace bt := bt.call hbel
  replace hT7 := hT7.call hbel
  replace hB7 := hB7.call hbel
  replace hH7 := hH7.call hbel
  replace hI7 := hI7.call hbel
  replace hV7 := hV7.call hbel
  clear c12 hbel s0 s1 s2 hsl bs9 hS7
  have c13 := vtext_any W10 W10 _ [4, 0] 10 hV7 (In.self _) (by decide) (fun i hi => by
    have h2 : i = 0 ∨ i = 1 := by simp at hi; omega
    rcases h2 with rfl | rfl <;> refine ratTx_small W10 _ ?_ ?_ <;> decide +kernel) (by decide)
  rw [wf_vec] at c13
  go_wp2_with fail
  ((with_reducible refine c13.mono ?_))
  rintro e W11 ⟨rfl, hbel⟩
  replace bt := bt.call hbel
  replace hT7 := hT7.call hbel
  replace hB7 := hB7.call hbel
  replace hH7 := hH7.call hbel
  replace hI7 := hI7.call hbel
  clear c13 hbel hV7
  have c14 := stext_any W11 W11 _ 3 2 _ 10 hT7 (In.self _) (by decide) (by decide) (by decide) (fun k i _ _ => hr W11 i k)
  rw [wf_textT] at c14
  have t0 := bt.c0
  have t1 := bt.c1
  have t2 := bt.c2
  have htl := bt.lt
  go_wp2_with fail
  ((with_reducible refine c14.mono ?_))
  rintro e W12 ⟨rfl, hbel⟩
  replace hB7 := hB7.call hbel
  replace hH7 := hH7.call hbel
  replace hI7 := hI7.call hbel
  clear c14 hbel t0 t1 t2 htl bt hT7
  have c15 : Calls Tryz.prog 9 #[.pointer (some ⟨b + 1, 0, none⟩), .int .i64 2, .int .i64 0, .agg #[.int .u64 A1, .string A2, .bool A3, .int .u64 A4, .string A5]] W12 fun e w' => e = .returned (.int .i64 1) ∧ Below W12.heap.size W12 w' := by
    rw [← HA.out]
    exact badd_out W12 (b + 1) b _ 2 3 _ 2 0 q hB7 (by omega)
  have h0 := hH7.c0
  have h1 := hH7.c1
  have h2 := hH7.c2
  have h3 := hH7.c3
  have h4 := hH7.c4
  have hhl := hH7.lt
  go_wp2_with fail
  ((with_reducible refine c15.mono ?_))
  rintro e W13 ⟨rfl, hbel⟩
  replace hI7 := hI7.call hbel
  clear c15 hbel h0 h1 h2 h3 h4 hhl hB7 hH7
  go_wp2_with fail
  go_ret
  exact ⟨rfl, by rw [← HX.out]; exact hI7.bel⟩
end Gus
end
section
/- Equality of fractions, entries, rows, matrices. -/
namespace Gus
open Go Go.RowKit Go.Proofs
/-- the parts by which a fraction is told -/
theorem frac_iff (p q : Rat) : (lo p.num.natAbs = lo q.num.natAbs ∧ (bg p.num.natAbs).toList = (bg q.num.natAbs).toList ∧ decide (p.num < 0) = decide (q.num < 0) ∧ lo (p.den - 1) = lo (q.den - 1) ∧ (bg (p.den - 1)).toList = (bg (q.den - 1)).toList) ↔ p = q := by
  constructor
  · rintro ⟨h1, h2, h3, h4, h5⟩
    have hn := (nat_eq_iff' _ _).1 ⟨h1, h2⟩
    have hd := (nat_eq_iff' _ _).1 ⟨h4, h5⟩
    rw [decide_eq_decide] at h3
    have := p.den_pos; have := q.den_pos
    refine Rat.ext ?_ (by omega)
    by_cases hp : p.num < 0
    · have := h3.1 hp; omega
    · have : ¬ q.num < 0 := fun h => hp (h3.2 h)
      omega
  · rintro rfl; exact ⟨rfl, rfl, rfl, rfl, rfl⟩
set_option maxHeartbeats 2000000 in
theorem entNeq_run (x y : EntI) (w : World) : (binOp .neq 97 (.agg (ecsI x).toArray) (.agg (ecsI y).toArray)).run Tryz.prog w = .ok (.bool (!decide (x = y))) w := by
  obtain ⟨i, p⟩ := x
  obtain ⟨k, q⟩ := y
  have h := frac_iff p q
  simp only [ecsI, fcs, Prod.mk.injEq]
  generalize lo p.num.natAbs = a1 at *
  generalize lo q.num.natAbs = b1 at *
  generalize bg p.num.natAbs = a2 at *
  generalize bg q.num.natAbs = b2 at *
  generalize decide (p.num < 0) = a3 at *
  generalize decide (q.num < 0) = b3 at *
  generalize lo (p.den - 1) = a4 at *
  generalize lo (q.den - 1) = b4 at *
  generalize bg (p.den - 1) = a5 at *
  generalize bg (q.den - 1) = b5 at *
  simp [go_sem]
  by_cases h0 : i = k <;> by_cases h1 : a1 = b1 <;> by_cases h2 : a2.toList = b2.toList <;> by_cases h3 : a3 = b3 <;> by_cases h4 : a4 = b4 <;> by_cases h5 : a5.toList = b5.toList <;> simp [h0, h1, h2, h3, h4, h5] at h ⊢ <;> (try simp [h])
set_option maxRecDepth 100000 in
set_option maxHeartbeats 2000000 in
theorem equalE_any (w : World) (v1 v2 : Value) (es1 es2 : List EntI) (h1 : RowG w v1 es1) (h2 : RowG w v2 es2) (hl : es1.length ≤ 4096) :
    Calls Tryz.prog 44 #[v1, v2] w fun e w' => e = .returned (.bool (decide (es1 = es2))) ∧ Below w.heap.size w w' := by
  have H1 := Lib.hid h1
  have H2 := Lib.hid h2
  obtain ⟨a1, c1, rfl, _⟩ := h1
  obtain ⟨a2, c2, rfl, _⟩ := h2
  obtain ⟨L, hL⟩ : ∃ L, L = es1.length := ⟨_, rfl⟩
  obtain ⟨M, hM⟩ : ∃ M, M = es2.length := ⟨_, rfl⟩
  rw [← hL] at hl ⊢
  rw [← hM]
  by_cases hLM : L = M
  · have hne : ((L : Int) != M) = false := by simp [hLM]
    obtain ⟨r, hr⟩ : ∃ r, r = decide (es1 = es2) := ⟨_, rfl⟩
    rw [← hr]
    have HR : Hid (r = decide (es1.drop 0 = es2.drop 0)) := Lib.hid hr
    have HL := Lib.hid hL
    have HM := Lib.hid hM
    have HLM := Lib.hid hLM
    clear hL hM hLM hr
    go_enter Tryz.func44, Tryz.ntmps44
    go_wp2_with fail
    go_loopw [13] (fun v13 wr => ∃ j : Nat, j ≤ L ∧ v13 = .int .i64 j ∧ Below w.heap.size w wr ∧ Hid (r = decide (es1.drop j = es2.drop j))) (fun v13 _ => L - (RowKit.intOf v13).toNat)
    case atStart => exact ⟨0, Nat.zero_le _, rfl, Below.refl _ _, HR⟩
    case round =>
      clear HR
      obtain ⟨j, hj, rfl, hbel, HR⟩ := hrel
      by_cases hjL : j < L
      · have hd1 := drop_getD es1 (0, 0) (show j < es1.length by rw [← HL.out]; exact hjL)
        have hd2 := drop_getD es2 (0, 0) (show j < es2.length by rw [← HM.out, ← HLM.out]; exact hjL)
        obtain ⟨b1, o1, k1, A1, A2, A3, A4, A5, hv1, hb1, hf1, _, x0, x1, x2, x3, x4, x5⟩ := (H1.out.call hbel).at (i := j) (by rw [← HL.out]; exact hjL)
        obtain ⟨b2, o2, k2, B1, B2, B3, B4, B5, hv2, hb2, hf2, _, y0, y1, y2, y3, y4, y5⟩ := (H2.out.call hbel).at (i := j) (by rw [← HM.out, ← HLM.out]; exact hjL)
        simp only [Value.slice.injEq] at hv1 hv2
        obtain ⟨rfl, _, hk1⟩ := hv1
        obtain ⟨rfl, _, hk2⟩ := hv2
        subst hk1 hk2
        obtain ⟨e1, he1⟩ : ∃ e, e = es1.getD j (0, 0) := ⟨_, rfl⟩
        obtain ⟨e2, he2⟩ : ∃ e, e = es2.getD j (0, 0) := ⟨_, rfl⟩
        have hneq := fun W => entNeq_run e1 e2 W
        have hr := HR.out
        rw [hd1, hd2, ← he1, ← he2] at hr
        unfold ecsI at hneq
        rw [← he1] at hf1 x0
        rw [← he2] at hf2 y0
        rw [hf1, hf2] at hneq
        obtain ⟨z1, hz1⟩ : ∃ z, z = e1.1 := ⟨_, rfl⟩
        obtain ⟨z2, hz2⟩ : ∃ z, z = e2.1 := ⟨_, rfl⟩
        rw [← hz1] at hneq x0
        rw [← hz2] at hneq y0
        have hjI : (j : Int) < L := by omega
        have hjM : (j : Int) < M := by have := HLM.out; omega
        have hj0 : (0 : Int) ≤ j := by omega
        have hjw : IntKind.i64.wrap ((j : Int) + 1) = ((j + 1 : Nat) : Int) := IntWalk.i64_in _ (by omega)
        clear hd1 hd2 HR
        by_cases heq : e1 = e2
        · rw [show (!decide (e1 = e2)) = false by simp [heq]] at hneq
          have hr2 : r = decide (es1.drop (j + 1) = es2.drop (j + 1)) := by rw [hr, heq]; simp
          have HR2 := Lib.hid hr2
          clear hr2 hr heq he1 he2 hz1 hz2 hf1 hf2
          go_upto_region 6 with fail
          have h := In.self wr
          have hc := h.cell
          refine wp_region_flow 8 (by kernel_rfl) (by kernel_rfl) (fun _ _ d _ _ h => by cases d <;> exact h) ?_; simp only [List.take_succ_cons, List.take_zero, List.drop_succ_cons, List.drop_zero]; simp only [putAll, Act.put, List.setIfInBounds_toArray, List.set]; (try simp only [Nat.reduceAdd]); (try simp only [Nat.zero_add]); (repeat (first | ((with_reducible refine flow_float (v := ?_) ?_ ?_ ?_); rotate_left 1; (focus (with_reducible rfl)); (focus (intro u w1 hw hd w2; (try simp only [depH] at hd); (try simp only [ext] at hd); (try simp only [extU] at hd); (try simp only [Nat.reduceAdd] at hd); (try simp only [Nat.reduceEqDiff] at hd); (try simp only [reduceIte] at hd); (try simp only [and_true] at hd); (try simp only [true_and] at hd); go_simp; exact rfl))) | ((first | ((with_reducible refine flow_pure0 (v := ?_) ?_ ?_ ?_ ?_); rotate_left 1; (focus (with_reducible rfl)); (focus rfl)) | ((with_reducible refine flow_pureg (v := ?_) (j := ?_) (b := ?_) ?_ ?_ ?_ ?_); rotate_left 3; (focus (with_reducible rfl)); (focus (intro u w1 hw hd; (try simp only [depH] at hd); (try simp only [ext] at hd); (try simp only [extU] at hd); (try simp only [Nat.reduceAdd] at hd); (try simp only [Nat.reduceEqDiff] at hd); (try simp only [reduceIte] at hd); (try simp only [and_true] at hd); (try simp only [true_and] at hd); simp [yielded, hd]; done)))); (focus (intro u w1 hw hd; (try simp only [depH] at hd); (try simp only [ext] at hd); (try simp only [extU] at hd); (try simp only [Nat.reduceAdd] at hd); (try simp only [Nat.reduceEqDiff] at hd); (try simp only [reduceIte] at hd); (try simp only [and_true] at hd); (try simp only [true_and] at hd); have hc' := hw.cell; go_simp; exact rfl))) | ((with_reducible refine flow_skipg (j := ?_) (b := ?_) ?_ ?_ ?_); rotate_left 2; (focus (with_reducible rfl)); (focus (intro u w1 hw hd; (try simp only [depH] at hd); (try simp only [ext] at hd); (try simp only [extU] at hd); (try simp only [Nat.reduceAdd] at hd); (try simp only [Nat.reduceEqDiff] at hd); (try simp only [reduceIte] at hd); (try simp only [and_true] at hd); (try simp only [true_and] at hd); simp [yielded, hd]; done))) | ((with_reducible refine flow_alloc (t := ?_) (zs := ?_) ?_ ?_ ?_ ?_); rotate_left 2; (focus (with_reducible rfl)); (focus rfl); (focus (intro u w1; go_simp; exact rfl)))))
          (try clear hc hf h); intro u w' h ha hdi; replace h := h.ins; (try simp only [World.size_alloc] at h); (try dsimp only at ha); (repeat rw [World.size_alloc] at ha); (try simp only [allH] at ha); (try simp only [ext] at ha); (try simp only [extU] at ha); (try simp only [Nat.reduceAdd] at ha); (try simp only [Nat.reduceEqDiff] at ha); (try simp only [reduceIte] at ha); (try simp only [and_true] at ha); (try simp only [true_and] at ha); have hc := h.cell; have hf := h.frozen
          (try obtain ha := ha); (try dsimp only);  simp only [ha]; clear ha hdi 
          have hbel2 := hbel.trans (h.bel.mono hbel.size)
          clear hc hf h
          go_wp2_with fail
          exact ⟨⟨j + 1, by omega, by go_num, hbel2, HR2⟩, by simp [RowKit.intOf]; omega⟩
        · rw [show (!decide (e1 = e2)) = true by simp [heq]] at hneq
          have hr2 : r = false := by rw [hr]; simp [heq]
          subst hr2
          clear hr heq he1 he2 hz1 hz2 hf1 hf2
          go_upto_region 6 with fail
          have h := In.self wr
          have hc := h.cell
          refine wp_region_flow 8 (by kernel_rfl) (by kernel_rfl) (fun _ _ d _ _ h => by cases d <;> exact h) ?_; simp only [List.take_succ_cons, List.take_zero, List.drop_succ_cons, List.drop_zero]; simp only [putAll, Act.put, List.setIfInBounds_toArray, List.set]; (try simp only [Nat.reduceAdd]); (try simp only [Nat.zero_add]); (repeat (first | ((with_reducible refine flow_float (v := ?_) ?_ ?_ ?_); rotate_left 1; (focus (with_reducible rfl)); (focus (intro u w1 hw hd w2; (try simp only [depH] at hd); (try simp only [ext] at hd); (try simp only [extU] at hd); (try simp only [Nat.reduceAdd] at hd); (try simp only [Nat.reduceEqDiff] at hd); (try simp only [reduceIte] at hd); (try simp only [and_true] at hd); (try simp only [true_and] at hd); go_simp; exact rfl))) | ((first | ((with_reducible refine flow_pure0 (v := ?_) ?_ ?_ ?_ ?_); rotate_left 1; (focus (with_reducible rfl)); (focus rfl)) | ((with_reducible refine flow_pureg (v := ?_) (j := ?_) (b := ?_) ?_ ?_ ?_ ?_); rotate_left 3; (focus (with_reducible rfl)); (focus (intro u w1 hw hd; (try simp only [depH] at hd); (try simp only [ext] at hd); (try simp only [extU] at hd); (try simp only [Nat.reduceAdd] at hd); (try simp only [Nat.reduceEqDiff] at hd); (try simp only [reduceIte] at hd); (try simp only [and_true] at hd); (try simp only [true_and] at hd); simp [yielded, hd]; done)))); (focus (intro u w1 hw hd; (try simp only [depH] at hd); (try simp only [ext] at hd); (try simp only [extU] at hd); (try simp only [Nat.reduceAdd] at hd); (try simp only [Nat.reduceEqDiff] at hd); (try simp only [reduceIte] at hd); (try simp only [and_true] at hd); (try simp only [true_and] at hd); have hc' := hw.cell; go_simp; exact rfl))) | ((with_reducible refine flow_skipg (j := ?_) (b := ?_) ?_ ?_ ?_); rotate_left 2; (focus (with_reducible rfl)); (focus (intro u w1 hw hd; (try simp only [depH] at hd); (try simp only [ext] at hd); (try simp only [extU] at hd); (try simp only [Nat.reduceAdd] at hd); (try simp only [Nat.reduceEqDiff] at hd); (try simp only [reduceIte] at hd); (try simp only [and_true] at hd); (try simp only [true_and] at hd); simp [yielded, hd]; done))) | ((with_reducible refine flow_alloc (t := ?_) (zs := ?_) ?_ ?_ ?_ ?_); rotate_left 2; (focus (with_reducible rfl)); (focus rfl); (focus (intro u w1; go_simp; exact rfl)))))
          (try clear hc hf h); intro u w' h ha hdi; replace h := h.ins; (try simp only [World.size_alloc] at h); (try dsimp only at ha); (repeat rw [World.size_alloc] at ha); (try simp only [allH] at ha); (try simp only [ext] at ha); (try simp only [extU] at ha); (try simp only [Nat.reduceAdd] at ha); (try simp only [Nat.reduceEqDiff] at ha); (try simp only [reduceIte] at ha); (try simp only [and_true] at ha); (try simp only [true_and] at ha); have hc := h.cell; have hf := h.frozen
          (try obtain ha := ha); (try dsimp only);  simp only [ha]; clear ha hdi 
          have hbel2 := hbel.trans (h.bel.mono hbel.size)
          clear hc hf h
          go_wp2_with fail
          go_ret
          exact ⟨rfl, hbel2⟩
      · have hr := HR.out
        rw [List.drop_eq_nil_of_le (by rw [← HL.out]; omega), List.drop_eq_nil_of_le (by rw [← HM.out, ← HLM.out]; omega)] at hr
        have hr2 : r = true := by rw [hr]; rfl
        subst hr2
        have hjI : ¬ (j : Int) < L := by omega
        clear hr HR
        go_wp2_with fail
        go_ret
        exact ⟨rfl, hbel⟩
  · have hne : ((L : Int) != M) = true := by
      have : ¬ (L : Int) = M := by omega
      simpa using this
    rw [show decide (es1 = es2) = false from decide_eq_false fun e => hLM (by rw [hL, hM, e])]
    clear hL hM hLM
    go_enter Tryz.func44, Tryz.ntmps44
    go_wp2_with fail
    go_ret
    exact ⟨rfl, Below.refl _ _⟩
end Gus
end
section
/- sparses.Same, sparses.Symmetric. -/
namespace Gus
open Go Go.RowKit Go.Proofs
def RwG (w : World) (a : Option Addr) (rows : List (List EntI)) : Prop := ∀ i, i < rows.length → ∃ b off x, a = some ⟨b, off, none⟩ ∧ b < w.heap.size ∧ w.cell? ⟨b, off + i, none⟩ = some x ∧ RowG w x (rows.getD i [])
theorem same1_any (w : World) (v1 v2 : Value) (es1 es2 : List EntI) (h1 : RowG w v1 es1) (h2 : RowG w v2 es2) (hl : es1.length ≤ 4096) :
    Calls Tryz.prog 43 #[v1, v2] w fun e w' => e = .returned (.bool (decide (es1 = es2))) ∧ Below w.heap.size w w' := by
  have h := equalE_any w v1 v2 es1 es2 h1 h2 hl
  obtain ⟨r, hr⟩ : ∃ r, r = decide (es1 = es2) := ⟨_, rfl⟩
  rw [← hr] at h ⊢
  clear hr h1 h2
  go_enter Tryz.func43, Tryz.ntmps43
  go_wp2_with fail
  ((with_reducible refine h.mono ?_))
  rintro e w' ⟨rfl, hb⟩
  clear h
  go_wp2_with fail
  go_ret
  exact ⟨rfl, hb⟩
set_option maxRecDepth 100000 in
set_option maxHeartbeats 2000000 in
theorem equalF_any (w : World) (a1 a2 : Option Addr) (c1 c2 : Nat) (rows1 rows2 : List (List EntI)) (h1 : RwG w a1 rows1) (h2 : RwG w a2 rows2) (hr : rows1.length ≤ 4096) (hl : ∀ i, (rows1.getD i []).length ≤ 4096) :
    Calls Tryz.prog 42 #[.slice a1 rows1.length c1, .slice a2 rows2.length c2, .func (.func 43) #[] #[]] w fun e w' => e = .returned (.bool (decide (rows1 = rows2))) ∧ Below w.heap.size w w' := by
  have eg : ∀ args w, (callFunc 43 args).run Tryz.prog w = .ok (.enter 43 args) w := enters_of Tryz.func43 (by kernel_rfl) rfl
  obtain ⟨L, hL⟩ : ∃ L, L = rows1.length := ⟨_, rfl⟩
  obtain ⟨M, hM⟩ : ∃ M, M = rows2.length := ⟨_, rfl⟩
  unfold RwG at h1 h2
  rw [← hL] at hr h1 ⊢
  rw [← hM] at h2 ⊢
  by_cases hLM : L = M
  · have hne : ((L : Int) != M) = false := by simp [hLM]
    obtain ⟨r, hrr⟩ : ∃ r, r = decide (rows1 = rows2) := ⟨_, rfl⟩
    rw [← hrr]
    have HR : Hid (r = decide (rows1.drop 0 = rows2.drop 0)) := Lib.hid hrr
    have H1 := Lib.hid h1
    have H2 := Lib.hid h2
    have HL := Lib.hid hL
    have HM := Lib.hid hM
    have HLM := Lib.hid hLM
    have HLL := Lib.hid hl
    clear hL hM hLM hrr h1 h2 hl
    go_enter Tryz.func42, Tryz.ntmps42
    go_wp2_with fail
    go_loopw [17] (fun v17 wr => ∃ j : Nat, j ≤ L ∧ v17 = .int .i64 j ∧ Below w.heap.size w wr ∧ Hid (r = decide (rows1.drop j = rows2.drop j))) (fun v17 _ => L - (RowKit.intOf v17).toNat)
    case atStart => exact ⟨0, Nat.zero_le _, rfl, Below.refl _ _, HR⟩
    case round =>
      clear HR
      obtain ⟨j, hj, rfl, hbel, HR⟩ := hrel
      by_cases hjL : j < L
      · have hd1 := drop_getD rows1 [] (show j < rows1.length by rw [← HL.out]; exact hjL)
        have hd2 := drop_getD rows2 [] (show j < rows2.length by rw [← HM.out, ← HLM.out]; exact hjL)
        obtain ⟨b1, o1, x1, rfl, hb1, hc1, hx1⟩ := H1.out j hjL
        obtain ⟨b2, o2, x2, rfl, hb2, hc2, hx2⟩ := H2.out j (by rw [← HLM.out]; exact hjL)
        rw [← hbel.cell (p := ⟨b1, o1 + j, none⟩) hb1] at hc1
        rw [← hbel.cell (p := ⟨b2, o2 + j, none⟩) hb2] at hc2
        have hbw1 : b1 < wr.heap.size := Nat.lt_of_lt_of_le hb1 hbel.size
        have hbw2 : b2 < wr.heap.size := Nat.lt_of_lt_of_le hb2 hbel.size
        have hs := same1_any wr x1 x2 _ _ (hx1.call hbel) (hx2.call hbel) (HLL.out j)
        have hrr := HR.out
        rw [hd1, hd2] at hrr
        obtain ⟨e1, he1⟩ : ∃ e, e = rows1.getD j [] := ⟨_, rfl⟩
        obtain ⟨e2, he2⟩ : ∃ e, e = rows2.getD j [] := ⟨_, rfl⟩
        rw [← he1, ← he2] at hrr hs
        obtain ⟨xa1, xn1, xk1, hxs1⟩ : ∃ a n k, x1 = .slice a n k := by obtain ⟨_, _, h, _⟩ := hx1; exact ⟨_, _, _, h⟩
        obtain ⟨xa2, xn2, xk2, hxs2⟩ : ∃ a n k, x2 = .slice a n k := by obtain ⟨_, _, h, _⟩ := hx2; exact ⟨_, _, _, h⟩
        subst hxs1 hxs2
        have hjI : (j : Int) < L := by omega
        have hjM : (j : Int) < M := by have := HLM.out; omega
        have hj0 : (0 : Int) ≤ j := by omega
        have hjw : IntKind.i64.wrap ((j : Int) + 1) = ((j + 1 : Nat) : Int) := IntWalk.i64_in _ (by omega)
        clear hd1 hd2 HR hb1 hb2 hx1 hx2
        by_cases heq : e1 = e2
        · rw [decide_eq_true heq] at hs
          have hr2 : r = decide (rows1.drop (j + 1) = rows2.drop (j + 1)) := by rw [hrr, heq]; simp
          have HR2 := Lib.hid hr2
          clear hr2 hrr heq he1 he2
          go_wp2_with fail
          ((with_reducible refine hs.mono ?_))
          rintro e w2 ⟨rfl, hb⟩
          have hbel2 := hbel.trans (hb.mono hbel.size)
          clear hb hs hc1 hc2 hbw1 hbw2
          go_wp2_with fail
          exact ⟨⟨j + 1, by omega, by go_num, hbel2, HR2⟩, by simp [RowKit.intOf]; omega⟩
        · rw [decide_eq_false heq] at hs
          have hr2 : r = false := by rw [hrr]; simp [heq]
          subst hr2
          clear hrr heq he1 he2
          go_wp2_with fail
          ((with_reducible refine hs.mono ?_))
          rintro e w2 ⟨rfl, hb⟩
          have hbel2 := hbel.trans (hb.mono hbel.size)
          clear hb hs hc1 hc2 hbw1 hbw2
          go_wp2_with fail
          go_ret
          exact ⟨rfl, hbel2⟩
      · have hrr := HR.out
        rw [List.drop_eq_nil_of_le (by rw [← HL.out]; omega), List.drop_eq_nil_of_le (by rw [← HM.out, ← HLM.out]; omega)] at hrr
        have hr2 : r = true := by rw [hrr]; rfl
        subst hr2
        have hjI : ¬ (j : Int) < L := by omega
        clear hrr HR
        go_wp2_with fail
        go_ret
        exact ⟨rfl, hbel⟩
  · have hne : ((L : Int) != M) = true := by
      have : ¬ (L : Int) = M := by omega
      simpa using this
    rw [show decide (rows1 = rows2) = false from decide_eq_false fun e => hLM (by rw [hL, hM, e])]
    clear hL hM hLM h1 h2 hl hr
    go_enter Tryz.func42, Tryz.ntmps42
    go_wp2_with fail
    go_ret
    exact ⟨rfl, Below.refl _ _⟩
def sameS (n1 m1 : Int) (rows1 : List (List EntI)) (n2 m2 : Int) (rows2 : List (List EntI)) : Bool := decide (n1 = n2) && (decide (m1 = m2) && decide (rows1 = rows2))
set_option maxRecDepth 100000 in
set_option maxHeartbeats 2000000 in
theorem ssame_any (w : World) (v1 v2 : Value) (n1 m1 n2 m2 : Int) (rows1 rows2 : List (List EntI)) (h1 : SpG w v1 n1 m1 rows1) (h2 : SpG w v2 n2 m2 rows2) (hr : rows1.length ≤ 4096) (hl : ∀ i, (rows1.getD i []).length ≤ 4096) :
    Calls Tryz.prog 17 #[v1, v2] w fun e w' => e = .returned (.bool (sameS n1 m1 rows1 n2 m2 rows2)) ∧ Below w.heap.size w w' := by
  have hE : ∀ W a1 c1 a2 c2, Below w.heap.size w W → v1 = .agg #[.int .i64 n1, .int .i64 m1, .slice a1 rows1.length c1] → v2 = .agg #[.int .i64 n2, .int .i64 m2, .slice a2 rows2.length c2] → Calls Tryz.prog _ _ _ _ := fun W a1 c1 a2 c2 hb e1 e2 => equalF_any W a1 a2 c1 c2 rows1 rows2 (by
      obtain ⟨a, c, h, hx⟩ := h1.call hb
      rw [e1] at h
      simp only [Value.agg.injEq] at h
      have h3 := congrArg Array.toList h
      simp only [List.cons.injEq, Value.slice.injEq, true_and, and_true] at h3
      rw [h3.1]; exact hx) (by
      obtain ⟨a, c, h, hx⟩ := h2.call hb
      rw [e2] at h
      simp only [Value.agg.injEq] at h
      have h3 := congrArg Array.toList h
      simp only [List.cons.injEq, Value.slice.injEq, true_and, and_true] at h3
      rw [h3.1]; exact hx) hr hl
  obtain ⟨a1, c1, rfl, _⟩ := h1
  obtain ⟨a2, c2, rfl, _⟩ := h2
  have hE2 := fun W hb => hE W a1 c1 a2 c2 hb rfl rfl
  obtain ⟨L, hL⟩ : ∃ L, L = rows1.length := ⟨_, rfl⟩
  obtain ⟨M, hM⟩ : ∃ M, M = rows2.length := ⟨_, rfl⟩
  obtain ⟨r, hrr⟩ : ∃ r, r = decide (rows1 = rows2) := ⟨_, rfl⟩
  unfold sameS
  rw [← hL, ← hM, ← hrr] at hE2
  rw [← hL, ← hM, ← hrr]
  clear hE hL hM hrr hr hl
  by_cases hn : n1 = n2
  · rw [decide_eq_true hn, Bool.true_and]
    have hb1 : (n1 == n2) = true := by simpa using hn
    by_cases hm : m1 = m2
    · rw [decide_eq_true hm, Bool.true_and]
      have hb2 : (m1 == m2) = true := by simpa using hm
      clear hn hm
      go_enter Tryz.func17, Tryz.ntmps17
      go_wp2_with fail
      ((with_reducible refine (hE2 _ ?_).mono ?_))
      · exact (((In.self w).alloc _).alloc _).bel
      rintro e w2 ⟨rfl, hb⟩
      have hin := (((In.self w).alloc _).alloc _).call hb
      clear hb hE2
      go_wp2_with fail
      go_ret
      exact ⟨rfl, hin.bel⟩
    · rw [decide_eq_false hm, Bool.false_and]
      have hb2 : (m1 == m2) = false := by simpa using hm
      clear hn hm hE2
      go_enter Tryz.func17, Tryz.ntmps17
      go_wp2_with fail
      go_ret
      exact ⟨rfl, (((In.self w).alloc _).alloc _).bel⟩
  · rw [decide_eq_false hn, Bool.false_and]
    have hb1 : (n1 == n2) = false := by simpa using hn
    clear hn hE2
    go_enter Tryz.func17, Tryz.ntmps17
    go_wp2_with fail
    go_ret
    exact ⟨rfl, (((In.self w).alloc _).alloc _).bel⟩
end Gus
end
