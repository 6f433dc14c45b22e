import Derived.Test.YtjbclomfocnplaaGreatDoorBox
/- The greatest common divisor of two numbers. -/
namespace Gus
open Go Go.RowKit Go.Proofs
set_option maxRecDepth 100000 in
set_option maxHeartbeats 1000000 in
/-- nats.Gcd -/
theorem gcd_any (m n : Nat) (hm : (wd m).length ≤ 549755813888) (hn : (wd n).length ≤ 549755813888) (w : World) :
    Calls Tryz.prog 164 #[natV m, natV n] w fun e w' => e = .returned (natV (Nat.gcd m n)) ∧ Below w.heap.size w w' := by
  obtain ⟨N, hN⟩ : ∃ N, N = w.heap.size := ⟨_, rfl⟩
  have HN := Lib.hid hN
  go_enter Tryz.func164, Tryz.ntmps164
  go_upto_region 1 with fail
  rw [← hN]
  obtain ⟨W, hW⟩ : ∃ W, W = ((w.alloc (.cells #[.int .u64 (lo m), .string (bg m)] 46)).alloc (.cells #[.int .u64 (lo n), .string (bg n)] 46)).alloc (.cells #[.int .u64 0, .string ⟨#[]⟩] 46) := ⟨_, rfl⟩
  rw [← hW]
  have b0 : natB W N m := by rw [hW]; exact ((Bx.new_at w _ _ hN).alloc _).alloc _
  have b1 : natB W (N + 1) n := by rw [hW]; exact (Bx.new_at _ _ _ (by rw [World.size_alloc, hN])).alloc _
  have b2 : natB W (N + 1 + 1) 0 := by rw [hW]; exact Bx.new_at _ _ _ (by rw [World.size_alloc, World.size_alloc, hN])
  have hI : In N w W := by rw [hW, hN]; exact (((In.self w).alloc _).alloc _).alloc _
  have hz : N + 1 + 1 < W.heap.size := b2.lt
  clear hW hN
  go_loopg [] n (fun k wr => ∃ a, natB wr N a ∧ natB wr (N + 1) k ∧ natB wr (N + 1 + 1) 0 ∧ In N w wr ∧ N + 1 + 1 < wr.heap.size ∧ Nat.gcd a k = Nat.gcd m n ∧ (wd a).length ≤ 549755813888 ∧ (wd k).length ≤ 549755813888)
  case atStart => exact ⟨m, b0, b1, b2, hI, hz, rfl, hm, hn⟩
  case round =>
    clear b0 b1 b2 hI hz hm hn
    obtain ⟨a, b0, b1, b2, hI, hz, hg, ha, hk⟩ := hrel
    have HG := Lib.hid hg
    clear hg
    have d0 := b0.c0
    have d1 := b0.c1
    have d2 := b1.c0
    have d3 := b1.c1
    have d4 := b2.c0
    have d5 := b2.c1
    have f4 := b2.frozen 0
    have f5 := b2.frozen 1
    by_cases h0 : gk = 0
    · subst h0
      have hga : a = Nat.gcd m n := by rw [← HG.out, Nat.gcd_zero_right]
      have HGA := Lib.hid hga
      clear hga
      go_wp2_with fail
      refine (zero_any 0 _).mono ?_
      rintro e w1 ⟨rfl, hb1⟩
      have d0' := (b0.call hb1).c0
      have d1' := (b0.call hb1).c1
      have b2' := b2.call hb1
      have d4' := b2'.c0
      have d5' := b2'.c1
      have f4' := b2'.frozen 0
      have f5' := b2'.frozen 1
      have hI' := hI.call hb1
      clear d0 d1 d2 d3 d4 d5 f4 f5 hb1 b0 b1 b2 hI
      go_wp2_with fail
      exact bodyPost_ret (v := natV a) (by simp [results, Tryz.results164, go_sem, d4', d5']) rfl ⟨by rw [HGA.out], by rw [← HN.out]; exact ((hI'.setCell (by simp; omega) _).setCell (by simp; omega) _).bel⟩
    · go_wp2_with fail
      refine (zero_any gk _).mono ?_
      rintro e w1 ⟨rfl, hb1⟩
      have hI' := hI.call hb1
      have b0' := b0.call hb1
      have b1' := b1.call hb1
      have b2' := b2.call hb1
      have hz' : N + 1 + 1 < w1.heap.size := b2'.lt
      clear d0 d1 d2 d3 d4 d5 f4 f5 hb1 b0 b1 b2 hI hz
      have d0 := b0'.c0
      have d1 := b0'.c1
      have d2 := b1'.c0
      have d3 := b1'.c1
      go_wp2_with fail
      refine (div_any a gk h0 ha hk _).mono ?_
      rintro e w2 ⟨rfl, hb2⟩
      have hI := hI'.call hb2
      have b0 := b0'.call hb2
      have b1 := b1'.call hb2
      have b2 := b2'.call hb2
      have hz : N + 1 + 1 < w2.heap.size := b2.lt
      clear d0 d1 d2 d3 hb2 b0' b1' b2' hI' hz'
      have d0 := b0.c0
      have d1 := b0.c1
      have d2 := b1.c0
      have d3 := b1.c1
      have f0 := b0.frozen 0
      have f1 := b0.frozen 1
      have f2 := b1.frozen 0
      have f3 := b1.frozen 1
      go_upto_region 3 with fail
      have hg2 : Nat.gcd gk (a % gk) = Nat.gcd m n := by rw [← HG.out, Nat.gcd_comm a gk, Nat.gcd_rec gk a, Nat.gcd_comm]
      have hlt : a % gk < gk := Nat.mod_lt _ (by omega)
      have HG2 := Lib.hid hg2
      obtain ⟨q, hq⟩ : ∃ q, q = a / gk := ⟨_, rfl⟩
      obtain ⟨r, hr⟩ : ∃ r, r = a % gk := ⟨_, rfl⟩
      rw [← hr] at HG2 hlt
      rw [← hq, ← hr]
      clear hq hr hg2
      have g1 := ((((((Bx.other b1 (a := ⟨N, 0, none⟩) (by simp) (.int .u64 (lo gk))).other (a := ⟨N, 1, none⟩) (by simp) (.string (bg gk))).set 0 (.int .u64 (lo r))).set 1 (.string (bg r))).alloc (.cells #[.int .u64 (lo q), .string (bg q)] 46)).alloc (.cells #[.int .u64 (lo r), .string (bg r)] 46)).drew
      have g0 := ((((((Bx.set b0 0 (.int .u64 (lo gk))).set 1 (.string (bg gk))).other (a := ⟨N + 1, 0, none⟩) (by simp) (.int .u64 (lo r))).other (a := ⟨N + 1, 1, none⟩) (by simp) (.string (bg r))).alloc (.cells #[.int .u64 (lo q), .string (bg q)] 46)).alloc (.cells #[.int .u64 (lo r), .string (bg r)] 46)).drew
      have g2 := ((((((Bx.other b2 (a := ⟨N, 0, none⟩) (by simp; omega) (.int .u64 (lo gk))).other (a := ⟨N, 1, none⟩) (by simp; omega) (.string (bg gk))).other (a := ⟨N + 1, 0, none⟩) (by simp) (.int .u64 (lo r))).other (a := ⟨N + 1, 1, none⟩) (by simp) (.string (bg r))).alloc (.cells #[.int .u64 (lo q), .string (bg q)] 46)).alloc (.cells #[.int .u64 (lo r), .string (bg r)] 46)).drew
      have hI3 := ((((((hI.setCell (p := ⟨N, 0, none⟩) (Nat.le_refl _) (.int .u64 (lo gk))).setCell (p := ⟨N, 1, none⟩) (Nat.le_refl _) (.string (bg gk))).setCell (p := ⟨N + 1, 0, none⟩) (Nat.le_succ _) (.int .u64 (lo r))).setCell (p := ⟨N + 1, 1, none⟩) (Nat.le_succ _) (.string (bg r))).alloc (.cells #[.int .u64 (lo q), .string (bg q)] 46)).alloc (.cells #[.int .u64 (lo r), .string (bg r)] 46)).drew
      have hz0 : N < w2.heap.size := by omega
      have hz1 : N + 1 < w2.heap.size := by omega
      go_region
      go_wp2_with fail
      go_roundg r
      case measure => exact hlt
      case rel => exact ⟨gk, g0, g1, g2, hI3, g2.lt, HG2.out, hk, Nat.le_trans (wd_mono (Nat.le_of_lt hlt)) hk⟩
end Gus
