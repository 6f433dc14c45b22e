/- Proved here: parts of the proof: Cgw Cbg. Conditions: those that each theorem states. -/
import Derived.Test.YtjbclomfocnplaaGreatDoorRvlR
import Derived.Test.YtjbclomfocnplaaGreatDoorSameR
section
/- cgs: the run, walked. -/
namespace Gus
open Go Go.RowKit Go.Proofs
set_option maxRecDepth 100000 in
set_option maxHeartbeats 32000000 in
theorem crun_vl {n m : Nat} {A : Nat → Nat → Rat} {b : Vc} {s0 : Cg} (w : World) (s y : Value) (hs : SysV w s n A b) (hy : VecAt w y (vl n s0.x)) (h0r : ∀ i, i < n → s0.r i = b i - mv n A s0.x i) (h0p : s0.p = s0.r) (hz : RunS n m A b s0) :
    Calls Tryz.prog 74 #[s, y] w fun e w' => ((∃ j v, Fin n A s0 j ∧ e = .returned (.tuple #[v, .int .i64 0]) ∧ StepsAt w' v n (j + 1) (runD n A b s0 j)) ∨ ((¬ ∃ j, Fin n A s0 j) ∧ e = .returned (.tuple #[.slice none 0 0, .int .i64 11]))) ∧ Below w.heap.size w w' := by
  obtain ⟨i0, hi0, hi1, hi2, hi3⟩ := info_parts info_step
  have hn7 := hz.hn
  have cl := fun W (h : In w.heap.size w W) => run_left hz W s y (hs.call h.bel) (hy.call h.bel)
  have HZ := Lib.hid hz
  have HSY := Lib.hid hs
  obtain ⟨ra, rc, ba, bc, rfl, h2, h3⟩ := hs
  obtain ⟨ya, yc, hye⟩ := hy.shape
  rw [vl_length] at hye
  subst hye
  have e0 : vl n (fun i => b i - mv n A s0.x i) = vl n s0.r := vl_congr fun i hi => (h0r i hi).symm
  rw [e0] at cl
  have HY := Lib.hid hy
  have H0P := Lib.hid h0p
  have HMK := Lib.hid (mk_vec n (by omega))
  clear hy h0r h0p hz e0 h2 h3
  go_enter Tryz.func74, Tryz.ntmps74
  go_upto_region 1 with fail
  ((obtain ⟨X, hXX⟩ : ∃ z, z = w.heap.size := ⟨_, rfl⟩); (have bV0 := (Bx.new_at w #[.int .i64 n, .int .i64 n, .slice ra n rc, .slice ba n bc] 150 (n := X) (by simp [hXX]))); (have hV := ((In.self w).alloc (.cells #[.int .i64 n, .int .i64 n, .slice ra n rc, .slice ba n bc] 150))); (rw [← hXX] at hV ⊢); (have HX := Lib.hid hXX); (clear hXX); (generalize w.alloc (.cells #[.int .i64 n, .int .i64 n, .slice ra n rc, .slice ba n bc] 150) = V at *))
  have hV' := hV
  rw [HX.out] at hV'
  have x0 := bV0.c0; have x1 := bV0.c1; have x2 := bV0.c2; have x3 := bV0.c3; have xl := bV0.lt
  go_wp2_with fail
  ((with_reducible refine (cl _ hV').mono ?_))
  rintro e w2 ⟨⟨rv, rfl, hr⟩, hb⟩
  have hin := hV.call hb
  have bs := bV0.call hb
  obtain ⟨r_a, r_c, hre⟩ := hr.shape
  rw [vl_length] at hre
  subst hre
  have c2 := clone_any w2 _ _ hr (by rw [vl_length]; omega)
  clear hb hV hV' bV0 cl x0 x1 x2 x3 xl
  go_wp2_with fail
  ((with_reducible refine c2.mono ?_))
  rintro e w3 ⟨⟨pv, rfl, hp⟩, hb⟩
  obtain ⟨p_a, p_c, hpe⟩ := hp.shape
  rw [vl_length] at hpe
  subst hpe
  replace hin := hin.call hb
  replace bs := bs.call hb
  replace hr := hr.call hb
  rw [← H0P.out] at hp
  have hinw := hin
  rw [HX.out] at hinw
  have hxw := HY.out.call hinw.bel
  have hnw : IntKind.i64.wrap ((n : Int) + 1) = ((n + 1 : Nat) : Int) := IntWalk.i64_in _ (by omega)
  clear hb c2 hinw HY
  have x0 := bs.c0; have x1 := bs.c1; have x2 := bs.c2; have x3 := bs.c3; have xl := bs.lt
  go_wp2_with fail
  clear x0 x1 x2 x3 xl
  go_loopw [1, 4, 6, 7, 24] (fun v1 v4 v6 v7 v24 wr => ∃ (k : Nat) (xv lv rv pv : Value), k ≤ n + 1 ∧ v24 = .int .i64 k ∧ v1 = xv ∧ v4 = lv ∧ v6 = rv ∧ v7 = pv ∧ In X w wr ∧ Bx wr X 150 [.int .i64 n, .int .i64 n, .slice ra n rc, .slice ba n bc] ∧ LAt wr (X + 1) n A b s0 lv k ∧ VecAt wr xv (vl n (s0.at n A k).x) ∧ VecAt wr rv (vl n (s0.at n A k).r) ∧ VecAt wr pv (vl n (s0.at n A k).p) ∧
    Hid (∀ i, i < k → dt n (s0.at n A i).r (s0.at n A i).r ≠ 0 ∧ dt n (s0.at n A i).p (mv n A (s0.at n A i).p) ≠ 0)) (fun _ _ _ _ v24 _ => n + 1 - (RowKit.intOf v24).toNat)
  case atStart => exact ⟨0, _, _, _, _, Nat.zero_le _, rfl, rfl, rfl, rfl, rfl, hin, bs, LAt.start _ _ _ _ _ _, hxw, hr, hp, Lib.hid fun i h => absurd h (Nat.not_lt_zero _)⟩
  case round =>
    rename World => wo
    clear hin bs hxw hr hp
    obtain ⟨k, xv, lv, rv, pv, hk, rfl, g1, g2, g3, g4, hin, bs, hL, hx, hr, hp, HNZ⟩ := hrel
    obtain ⟨xa, xc, hxe⟩ := hx.shape
    obtain ⟨r_a, r_c, hre⟩ := hr.shape
    obtain ⟨pa, pc, hpe⟩ := hp.shape
    obtain ⟨la, lc, hle⟩ := hL.shape
    rw [vl_length] at hxe hre hpe
    subst hxe hre hpe hle
    subst g1 g2 g3 g4
    by_cases hkn : k ≤ n
    · have hkI : (k : Int) < ((n + 1 : Nat) : Int) := by omega
      have hinw : In w.heap.size w wo := by rw [← HX.out]; exact hin
      have hS := HSY.out.call hinw.bel
      have cE := fun W (h : In wo.heap.size wo W) => run_energy HZ.out hkn W _ _ (hS.call h.bel) (hx.call h.bel)
      have cZ := fun W (h : In wo.heap.size wo W) => run_zero HZ.out hkn W _ (hr.call h.bel)
      have cT := fun W (h : In wo.heap.size wo W) => run_times HZ.out hkn W _ _ (hS.call h.bel) (hp.call h.bel)
      have cR := fun W (h : In wo.heap.size wo W) => run_rr HZ.out hkn W _ _ (hr.call h.bel) (hr.call h.bel)
      obtain ⟨en0, hen⟩ : ∃ e, e = en n A b (s0.at n A k).x := ⟨_, rfl⟩
      rw [← hen] at cE
      have HEN := Lib.hid hen
      obtain ⟨E1, E2, E3, E4, E5, hE, hE'⟩ : ∃ A1 A2 A3 A4 A5, fracV en0 = .agg #[.int .u64 A1, .string A2, .bool A3, .int .u64 A4, .string A5] ∧ fcs en0 = [.int .u64 A1, .string A2, .bool A3, .int .u64 A4, .string A5] := ⟨_, _, _, _, _, rfl, rfl⟩
      rw [hE] at cE
      have HE' := Lib.hid hE'
      obtain ⟨q, hq⟩ : ∃ q, q = dt n (s0.at n A k).r (s0.at n A k).r := ⟨_, rfl⟩
      rw [← hq] at cZ cR
      have HQ := Lib.hid hq
      have HX0 := Lib.hid hx
      have HR0 := Lib.hid hr
      have HP0 := Lib.hid hp
      have HL0 := Lib.hid hL
      have HIN := Lib.hid hin
      clear hen hE hE' hq hinw hS hx hr hp hL
      have x0 := bs.c0; have x1 := bs.c1; have x2 := bs.c2; have x3 := bs.c3; have xl := bs.lt
      go_wp2_with fail
      ((with_reducible refine (cE _ (In.self _)).mono ?_))
      rintro e w1 ⟨rfl, hb⟩
      have h1 := (In.self wo).call hb
      have bs1 := bs.call hb
      have hSlo := h1.siz
      clear hb cE x0 x1 x2 x3 xl
      go_upto_region 6 with fail
      ((obtain ⟨S, hS⟩ : ∃ z, z = w1.heap.size := ⟨_, rfl⟩); (have bS := Bx.new_at w1 #[.slice xa n xc, .slice r_a n r_c, .slice pa n pc, .int .u64 0, .string ⟨#[]⟩, .bool false, .int .u64 0, .string ⟨#[]⟩, .int .u64 E1, .string E2, .bool E3, .int .u64 E4, .string E5] 61 hS); (replace h1 := h1.alloc (.cells #[.slice xa n xc, .slice r_a n r_c, .slice pa n pc, .int .u64 0, .string ⟨#[]⟩, .bool false, .int .u64 0, .string ⟨#[]⟩, .int .u64 E1, .string E2, .bool E3, .int .u64 E4, .string E5] 61)); (replace bs1 := bs1.alloc (.cells #[.slice xa n xc, .slice r_a n r_c, .slice pa n pc, .int .u64 0, .string ⟨#[]⟩, .bool false, .int .u64 0, .string ⟨#[]⟩, .int .u64 E1, .string E2, .bool E3, .int .u64 E4, .string E5] 61)); (rw [← hS] at hSlo); (rw [← hS]); (clear hS); (generalize w1.alloc (.cells #[.slice xa n xc, .slice r_a n r_c, .slice pa n pc, .int .u64 0, .string ⟨#[]⟩, .bool false, .int .u64 0, .string ⟨#[]⟩, .int .u64 E1, .string E2, .bool E3, .int .u64 E4, .string E5] 61) = W1 at *))
      go_wp2_with fail
      ((with_reducible refine (cZ _ h1).mono ?_))
      rintro e w2 ⟨rfl, hb⟩
      replace h1 := h1.call hb
      replace bs1 := bs1.call hb
      replace bS := bS.call hb
      clear hb cZ
      by_cases hz0 : q = 0
      · rw [decide_eq_true hz0]
        have hmk := HMK.out w2
        have x0 := bs1.c0; have x1 := bs1.c1; have x2 := bs1.c2; have x3 := bs1.c3; have xl := bs1.lt
        have y0 : World.cell? w2 ⟨S, 0, none⟩ = some (.slice xa n xc) := bS.cell 0; have y1 : World.cell? w2 ⟨S, 1, none⟩ = some (.slice r_a n r_c) := bS.cell 1; have y2 : World.cell? w2 ⟨S, 2, none⟩ = some (.slice pa n pc) := bS.cell 2; have y3 : World.cell? w2 ⟨S, 3, none⟩ = some (.int .u64 0) := bS.cell 3; have y4 : World.cell? w2 ⟨S, 4, none⟩ = some (.string ⟨#[]⟩) := bS.cell 4; have y5 : World.cell? w2 ⟨S, 5, none⟩ = some (.bool false) := bS.cell 5; have y6 : World.cell? w2 ⟨S, 6, none⟩ = some (.int .u64 0) := bS.cell 6; have y7 : World.cell? w2 ⟨S, 7, none⟩ = some (.string ⟨#[]⟩) := bS.cell 7; have y8 : World.cell? w2 ⟨S, 8, none⟩ = some (.int .u64 E1) := bS.cell 8; have y9 : World.cell? w2 ⟨S, 9, none⟩ = some (.string E2) := bS.cell 9; have y10 : World.cell? w2 ⟨S, 10, none⟩ = some (.bool E3) := bS.cell 10; have y11 : World.cell? w2 ⟨S, 11, none⟩ = some (.int .u64 E4) := bS.cell 11; have y12 : World.cell? w2 ⟨S, 12, none⟩ = some (.string E5) := bS.cell 12; have yl := bS.lt
        have yf := bS.frozen 2
        clear cR cT
        go_upto_region 8 with fail
        obtain ⟨Z, hZ⟩ : ∃ Z, Z = w2.heap.size := ⟨_, rfl⟩
        have bZ : VBx ((w2.setCell ⟨S, 2, none⟩ (.slice (some ⟨Z, 0, none⟩) n n)).alloc (.cells (fcl (List.replicate n 0)).toArray 52)) Z (List.replicate n 0) := Bx.new_at _ _ _ (by rw [World.size_setCell]; exact hZ)
        have bS3 := (bS.set 2 (.slice (some ⟨Z, 0, none⟩) n n)).alloc (.cells (fcl (List.replicate n 0)).toArray 52)
        have h3 := (h1.setCell (p := ⟨S, 2, none⟩) hSlo (.slice (some ⟨Z, 0, none⟩) n n)).alloc (.cells (fcl (List.replicate n 0)).toArray 52)
        rw [← hZ]
        clear hmk h1 bs1 bS x0 x1 x2 x3 xl y0 y1 y2 y3 y4 y5 y6 y7 y8 y9 y10 y11 y12 yl yf hZ
        generalize (w2.setCell ⟨S, 2, none⟩ (.slice (some ⟨Z, 0, none⟩) n n)).alloc (.cells (fcl (List.replicate n 0)).toArray 52) = V3 at *
        simp only [List.set] at bS3
        have hp0 : VecAt V3 (.slice (some ⟨Z, 0, none⟩) n n) (vl n fun _ => 0) := by
          have e : vl n (fun _ => (0 : Rat)) = List.replicate n 0 := by unfold vl; rw [List.map_const']; simp
          rw [e]; exact bZ.at n (by simp) n
        have y0 : World.cell? V3 ⟨S, 0, none⟩ = some (.slice xa n xc) := bS3.cell 0; have y1 : World.cell? V3 ⟨S, 1, none⟩ = some (.slice r_a n r_c) := bS3.cell 1; have y2 : World.cell? V3 ⟨S, 2, none⟩ = some (.slice (some ⟨Z, 0, none⟩) n n) := bS3.cell 2; have y3 : World.cell? V3 ⟨S, 3, none⟩ = some (.int .u64 0) := bS3.cell 3; have y4 : World.cell? V3 ⟨S, 4, none⟩ = some (.string ⟨#[]⟩) := bS3.cell 4; have y5 : World.cell? V3 ⟨S, 5, none⟩ = some (.bool false) := bS3.cell 5; have y6 : World.cell? V3 ⟨S, 6, none⟩ = some (.int .u64 0) := bS3.cell 6; have y7 : World.cell? V3 ⟨S, 7, none⟩ = some (.string ⟨#[]⟩) := bS3.cell 7; have y8 : World.cell? V3 ⟨S, 8, none⟩ = some (.int .u64 E1) := bS3.cell 8; have y9 : World.cell? V3 ⟨S, 9, none⟩ = some (.string E2) := bS3.cell 9; have y10 : World.cell? V3 ⟨S, 10, none⟩ = some (.bool E3) := bS3.cell 10; have y11 : World.cell? V3 ⟨S, 11, none⟩ = some (.int .u64 E4) := bS3.cell 11; have y12 : World.cell? V3 ⟨S, 12, none⟩ = some (.string E5) := bS3.cell 12; have yl := bS3.lt
        obtain ⟨vs, hv1, hv2, hv3⟩ := HL0.out.call h3.bel
        have HV1 := Lib.hid hv1
        have HV2 := Lib.hid hv2
        have HV3 := Lib.hid hv3
        have HP1 := Lib.hid hp0
        have HX1 := Lib.hid (HX0.out.call h3.bel)
        have HR1 := Lib.hid (HR0.out.call h3.bel)
        have H3 := Lib.hid h3
        have hXS : X + 1 ≤ S := by have := (HIN.out.siz); have := bs.lt; omega
        have hVS : S < V3.heap.size := yl
        have hv2lt := hv2.lt
        have HLT := Lib.hid hv2lt
        clear hv1 hv2 hv3 hp0 h3 bZ bS3 hv2lt
        go_wp2_with (at_builtin; refine wpList_append_own _ rfl (.tmp 40) (.tmp 42) 35 rfl (X + 1) 61 i0 (.agg #[.slice none 0 0, .slice none 0 0, .slice none 0 0, .int .u64 0, .string ⟨#[]⟩, .bool false, .int .u64 0, .string ⟨#[]⟩, .int .u64 0, .string ⟨#[]⟩, .bool false, .int .u64 0, .string ⟨#[]⟩]) 13 184 Tryz.underlying35 hi0 hi1 hi2 hi3 rfl (by decide) (.slice la k lc) k (stl n A b s0 vs) rfl (HV2.out.alloc _) ⟨V3.heap.size, 0, none⟩ 1 1 [.slice xa n xc, .slice r_a n r_c, .slice (some ⟨Z, 0, none⟩) n n, .int .u64 0, .string ⟨#[]⟩, .bool false, .int .u64 0, .string ⟨#[]⟩, .int .u64 E1, .string E2, .bool E3, .int .u64 E4, .string E5] rfl rfl ?c1 ?c2 ?c3 ?c4 ?c5 ?_)
        case c1 =>
          intro j u hj
          have e : (⟨V3.heap.size, 0, none⟩ : Addr).add j = ⟨V3.heap.size, j, none⟩ := by unfold Addr.add; split <;> simp_all
          rw [e, (Bx.new_at V3 #[.slice xa n xc, .slice r_a n r_c, .slice (some ⟨Z, 0, none⟩) n n, .int .u64 0, .string ⟨#[]⟩, .bool false, .int .u64 0, .string ⟨#[]⟩, .int .u64 E1, .string E2, .bool E3, .int .u64 E4, .string E5] 61 rfl).cell j]; exact hj
        case c2 =>
          intro u hu
          simp only [List.mem_cons, List.not_mem_nil, or_false] at hu
          rcases hu with rfl | rfl | rfl | rfl | rfl | rfl | rfl | rfl | rfl | rfl | rfl | rfl | rfl <;> rfl
        case c3 => simp only [maxLen]; omega
        case c4 => omega
        case c5 => rw [World.size_alloc]; omega
        intro v' w4 hown4 hgr _
        have hal : Below V3.heap.size V3 (V3.alloc (.cells #[.slice xa n xc, .slice r_a n r_c, .slice (some ⟨Z, 0, none⟩) n n, .int .u64 0, .string ⟨#[]⟩, .bool false, .int .u64 0, .string ⟨#[]⟩, .int .u64 E1, .string E2, .bool E3, .int .u64 E4, .string E5] 61)) := (Below.refl _ _).alloc (Nat.le_refl _) _
        have hst := LAt.steps (f := 0) (e := en0) HV1.out (HV2.out.alloc (.cells #[.slice xa n xc, .slice r_a n r_c, .slice (some ⟨Z, 0, none⟩) n n, .int .u64 0, .string ⟨#[]⟩, .bool false, .int .u64 0, .string ⟨#[]⟩, .int .u64 E1, .string E2, .bool E3, .int .u64 E4, .string E5] 61)) (fun i hi => ⟨(HV3.out i hi).1.call hal, (HV3.out i hi).2.1.call hal, (HV3.out i hi).2.2.call hal⟩) (HX1.out.call hal) (HR1.out.call hal) (HP1.out.call hal) HEN.out rfl (by
          show World.ownsRow w4 (X + 1) 61 13 v' (k + 1) (stl n A b s0 vs ++ (.slice xa n xc :: .slice r_a n r_c :: .slice (some ⟨Z, 0, none⟩) n n :: (fcs 0 ++ fcs en0)))
          rw [HE'.out]; exact hown4) hgr
        have hin4 : In X w w4 := by
          have h5 := (HIN.out.call H3.out.bel).alloc (.cells #[.slice xa n xc, .slice r_a n r_c, .slice (some ⟨Z, 0, none⟩) n n, .int .u64 0, .string ⟨#[]⟩, .bool false, .int .u64 0, .string ⟨#[]⟩, .int .u64 E1, .string E2, .bool E3, .int .u64 E4, .string E5] 61)
          exact ⟨h5.bel.grown hgr h5.siz (fun k h => by have := (HLT.out _ h).1; omega), Nat.le_trans h5.siz hgr.size⟩
        obtain ⟨g9, c9, rfl⟩ : ∃ g9 c9, v' = .slice (some ⟨g9, 0, none⟩) (k + 1) c9 := by
          rcases hown4.2 with ⟨_, hn⟩ | ⟨g9, c9, cur, h9, _⟩
          · omega
          · exact ⟨g9, c9, h9⟩
        have HST := Lib.hid hst
        have HIN4 := Lib.hid hin4
        have HZ0 := Lib.hid hz0
        clear hst hin4 hown4 hgr hal
        go_wp2_with fail
        exact bodyPost_ret (v := .tuple #[.slice (some ⟨g9, 0, none⟩) (k + 1) c9, .int .i64 0]) (by simp [results, Tryz.results74, go_sem]) rfl ⟨.inl ⟨k, _, ⟨hkn, by rw [← HQ.out]; exact HZ0.out, HNZ.out⟩, rfl, HST.out⟩, by rw [← HX.out]; exact HIN4.out.bel⟩
      · rw [decide_eq_false hz0]
        have HZ0 := Lib.hid hz0
        clear hz0
        have x0 := bs1.c0; have x1 := bs1.c1; have x2 := bs1.c2; have x3 := bs1.c3; have xl := bs1.lt
        go_wp2_with fail
        ((with_reducible refine (cT _ h1).mono ?_))
        rintro e w3 ⟨⟨sv, rfl, hsp⟩, hb⟩
        obtain ⟨sa, sc, hse⟩ := hsp.shape
        rw [vl_length] at hse
        subst hse
        replace h1 := h1.call hb
        replace bs1 := bs1.call hb
        replace bS := bS.call hb
        clear hb cT x0 x1 x2 x3 xl
        obtain ⟨Q1, Q2, Q3, Q4, Q5, hQ, hQ'⟩ : ∃ A1 A2 A3 A4 A5, fracV q = .agg #[.int .u64 A1, .string A2, .bool A3, .int .u64 A4, .string A5] ∧ fcs q = [.int .u64 A1, .string A2, .bool A3, .int .u64 A4, .string A5] := ⟨_, _, _, _, _, rfl, rfl⟩
        rw [hQ] at cR
        have HQ' := Lib.hid hQ
        clear hQ hQ'
        go_wp2_with fail
        ((with_reducible refine (cR _ h1).mono ?_))
        rintro e w4 ⟨rfl, hb⟩
        replace h1 := h1.call hb
        replace bs1 := bs1.call hb
        replace bS := bS.call hb
        replace hsp := hsp.call hb
        have hTlo := h1.siz
        have lXT := bs1.lt
        have lST := bS.lt
        clear hb cR
        go_upto_region 11 with fail
        ((obtain ⟨T, hT⟩ : ∃ z, z = w4.heap.size := ⟨_, rfl⟩); (have bT := Bx.new_at w4 #[.int .u64 Q1, .string Q2, .bool Q3, .int .u64 Q4, .string Q5] 52 hT); (replace h1 := h1.alloc (.cells #[.int .u64 Q1, .string Q2, .bool Q3, .int .u64 Q4, .string Q5] 52)); (replace bs1 := bs1.alloc (.cells #[.int .u64 Q1, .string Q2, .bool Q3, .int .u64 Q4, .string Q5] 52)); (replace bS := bS.alloc (.cells #[.int .u64 Q1, .string Q2, .bool Q3, .int .u64 Q4, .string Q5] 52)); (replace hsp := hsp.call ((Below.refl _ _).alloc (Nat.le_refl _) (.cells #[.int .u64 Q1, .string Q2, .bool Q3, .int .u64 Q4, .string Q5] 52))); (rw [← hT] at hTlo); (rw [← hT] at lXT); (rw [← hT] at lST); (rw [← hT]); (clear hT); (generalize w4.alloc (.cells #[.int .u64 Q1, .string Q2, .bool Q3, .int .u64 Q4, .string Q5] 52) = W4 at *))
        have cP := fun W (h : In wo.heap.size wo W) (hd : VecAt W (.slice sa n sc) (vl n (mv n A (s0.at n A k).p))) => run_pp HZ.out hkn W _ _ (HP0.out.call h.bel) hd
        obtain ⟨pq, hpq⟩ : ∃ pq, pq = dt n (s0.at n A k).p (mv n A (s0.at n A k).p) := ⟨_, rfl⟩
        rw [← hpq] at cP
        have HPQ := Lib.hid hpq
        clear hpq
        have lX := bs1.lt
        have lS := bS.lt
        have lT := bT.lt
        have t0 := bT.c0; have t1 := bT.c1; have t2 := bT.c2; have t3 := bT.c3; have t4 := bT.c4; have tl := bT.lt
        by_cases hp0 : pq = 0
        · have hno : ¬ ∃ j, Fin n A s0 j := fun ⟨j, h1, h2, h3⟩ => by
            rcases Nat.lt_trichotomy j k with h | h | h
            · exact (HNZ.out j h).1 h2
            · subst h; exact HZ0.out (by rw [HQ.out]; exact h2)
            · exact (h3 k h).2 (by rw [← HPQ.out]; exact hp0)
          have cD : ∀ W, Calls Tryz.prog 27 #[.agg #[.int .u64 Q1, .string Q2, .bool Q3, .int .u64 Q4, .string Q5], fracV pq] W fun e w' => e = .returned (.tuple #[.agg #[.int .u64 0, .string ⟨#[]⟩, .bool false, .int .u64 0, .string ⟨#[]⟩], .int .i64 5]) ∧ Below W.heap.size W w' := fun W => by
            have e0 : fracV 0 = .agg #[.int .u64 0, .string ⟨#[]⟩, .bool false, .int .u64 0, .string ⟨#[]⟩] := fracV_int 0
            have h := fdiv_zero q W
            rw [HQ'.out, e0] at h
            rw [hp0, e0]
            exact h
          have HNO := Lib.hid hno
          clear hno hp0
          have h := In.self W4
          have hc := h.cell
          refine wp_region_flow 9 (by kernel_rfl) (by kernel_rfl) (fun _ _ d _ _ h => by cases d <;> exact h) ?_; simp only [List.take_succ_cons, List.take_zero, List.drop_succ_cons, List.drop_zero]; simp only [putAll, Act.put, List.setIfInBounds_toArray, List.set]; (try simp only [Nat.reduceAdd]); (try simp only [Nat.zero_add]); (repeat (first | ((with_reducible refine flow_float (v := ?_) ?_ ?_ ?_); rotate_left 1; (focus (with_reducible rfl)); (focus (intro u w1 hw hd w2; (try simp only [depH] at hd); (try simp only [ext] at hd); (try simp only [extU] at hd); (try simp only [Nat.reduceAdd] at hd); (try simp only [Nat.reduceEqDiff] at hd); (try simp only [reduceIte] at hd); (try simp only [and_true] at hd); (try simp only [true_and] at hd); go_simp; exact rfl))) | ((first | ((with_reducible refine flow_pure0 (v := ?_) ?_ ?_ ?_ ?_); rotate_left 1; (focus (with_reducible rfl)); (focus rfl)) | ((with_reducible refine flow_pureg (v := ?_) (j := ?_) (b := ?_) ?_ ?_ ?_ ?_); rotate_left 3; (focus (with_reducible rfl)); (focus (intro u w1 hw hd; (try simp only [depH] at hd); (try simp only [ext] at hd); (try simp only [extU] at hd); (try simp only [Nat.reduceAdd] at hd); (try simp only [Nat.reduceEqDiff] at hd); (try simp only [reduceIte] at hd); (try simp only [and_true] at hd); (try simp only [true_and] at hd); simp [yielded, hd]; done)))); (focus (intro u w1 hw hd; (try simp only [depH] at hd); (try simp only [ext] at hd); (try simp only [extU] at hd); (try simp only [Nat.reduceAdd] at hd); (try simp only [Nat.reduceEqDiff] at hd); (try simp only [reduceIte] at hd); (try simp only [and_true] at hd); (try simp only [true_and] at hd); have hc' := hw.cell; first | (go_simp; exact rfl) | (go_simp; go_at_call 159; ((with_reducible refine (cP _ (h1.call hw.ins.bel) (hsp.call hw.ins.bel)).mono ?_)); rintro e w'' ⟨rfl, hb⟩; refine ⟨?_, hb⟩; exact rfl) | (go_simp; go_at_call 27; ((with_reducible refine (cD _).mono ?_)); rintro e w'' ⟨rfl, hb⟩; refine ⟨?_, hb⟩; exact rfl)))) | ((with_reducible refine flow_skipg (j := ?_) (b := ?_) ?_ ?_ ?_); rotate_left 2; (focus (with_reducible rfl)); (focus (intro u w1 hw hd; (try simp only [depH] at hd); (try simp only [ext] at hd); (try simp only [extU] at hd); (try simp only [Nat.reduceAdd] at hd); (try simp only [Nat.reduceEqDiff] at hd); (try simp only [reduceIte] at hd); (try simp only [and_true] at hd); (try simp only [true_and] at hd); simp [yielded, hd]; done))) | ((with_reducible refine flow_alloc (t := ?_) (zs := ?_) ?_ ?_ ?_ ?_); rotate_left 2; (focus (with_reducible rfl)); (focus rfl); (focus (intro u w1; go_simp; exact rfl)))))
          (try clear hc hf h); intro u w' h ha hdi; replace h := h.ins; (try simp only [World.size_alloc] at h); (try dsimp only at ha); (repeat rw [World.size_alloc] at ha); (try simp only [allH] at ha); (try simp only [ext] at ha); (try simp only [extU] at ha); (try simp only [Nat.reduceAdd] at ha); (try simp only [Nat.reduceEqDiff] at ha); (try simp only [reduceIte] at ha); (try simp only [and_true] at ha); (try simp only [true_and] at ha); have hc := h.cell; have hf := h.frozen
          obtain ⟨ha, G, hu, hGN, bg1⟩ := ha
          (try obtain ha := ha); (try dsimp only);  simp only [ha, hu]; clear ha hdi hu
          have g0 := bg1.c0; have g1 := bg1.c1; have g2 := bg1.c2; have g3 := bg1.c3; have g4 := bg1.c4; have gl := bg1.lt
          have f0 := bg1.frozen 0; have f1 := bg1.frozen 1; have f2 := bg1.frozen 2; have f3 := bg1.frozen 3; have f4 := bg1.frozen 4
          have KH := Lib.hid (((((h.setCell (p := ⟨G, 0, none⟩) (by simp; omega) (.int .u64 0)).setCell (p := ⟨G, 1, none⟩) (by simp; omega) (.string ⟨#[]⟩)).setCell (p := ⟨G, 2, none⟩) (by simp; omega) (.bool false)).setCell (p := ⟨G, 3, none⟩) (by simp; omega) (.int .u64 0)).setCell (p := ⟨G, 4, none⟩) (by simp; omega) (.string ⟨#[]⟩))
          have H1 := Lib.hid h1
          clear hc hf cD cP t0 t1 t2 t3 t4 tl h h1 bg1 bs1 bS bT hsp
          go_wp2_with fail
          exact bodyPost_ret (v := .tuple #[.slice none 0 0, .int .i64 11]) (by simp [results, Tryz.results74, go_sem]) rfl ⟨.inr ⟨fun j h => HNO.out ⟨j, h⟩, rfl⟩, by rw [← HX.out]; exact (HIN.out.call (H1.out.call KH.out.bel).bel).bel⟩
        · have HP1 := Lib.hid hp0
          have cD := fun W => run_far HZ.out hkn (by rw [← HPQ.out]; exact hp0) W
          rw [← HPQ.out, ← HQ.out, HQ'.out] at cD
          obtain ⟨far, hfar⟩ : ∃ f, f = (s0.at n A k).far n A := ⟨_, rfl⟩
          rw [← hfar] at cD
          obtain ⟨F1, F2, F3, F4, F5, hF, hF'⟩ : ∃ A1 A2 A3 A4 A5, fracV far = .agg #[.int .u64 A1, .string A2, .bool A3, .int .u64 A4, .string A5] ∧ fcs far = [.int .u64 A1, .string A2, .bool A3, .int .u64 A4, .string A5] := ⟨_, _, _, _, _, rfl, rfl⟩
          rw [hF] at cD
          have HFAR := Lib.hid hfar
          have HF := Lib.hid hF
          have HF' := Lib.hid hF'
          clear hfar hF hF' hp0
          have h := In.self W4
          have hc := h.cell
          refine wp_region_flow 9 (by kernel_rfl) (by kernel_rfl) (fun _ _ d _ _ h => by cases d <;> exact h) ?_; simp only [List.take_succ_cons, List.take_zero, List.drop_succ_cons, List.drop_zero]; simp only [putAll, Act.put, List.setIfInBounds_toArray, List.set]; (try simp only [Nat.reduceAdd]); (try simp only [Nat.zero_add]); (repeat (first | ((with_reducible refine flow_float (v := ?_) ?_ ?_ ?_); rotate_left 1; (focus (with_reducible rfl)); (focus (intro u w1 hw hd w2; (try simp only [depH] at hd); (try simp only [ext] at hd); (try simp only [extU] at hd); (try simp only [Nat.reduceAdd] at hd); (try simp only [Nat.reduceEqDiff] at hd); (try simp only [reduceIte] at hd); (try simp only [and_true] at hd); (try simp only [true_and] at hd); go_simp; exact rfl))) | ((first | ((with_reducible refine flow_pure0 (v := ?_) ?_ ?_ ?_ ?_); rotate_left 1; (focus (with_reducible rfl)); (focus rfl)) | ((with_reducible refine flow_pureg (v := ?_) (j := ?_) (b := ?_) ?_ ?_ ?_ ?_); rotate_left 3; (focus (with_reducible rfl)); (focus (intro u w1 hw hd; (try simp only [depH] at hd); (try simp only [ext] at hd); (try simp only [extU] at hd); (try simp only [Nat.reduceAdd] at hd); (try simp only [Nat.reduceEqDiff] at hd); (try simp only [reduceIte] at hd); (try simp only [and_true] at hd); (try simp only [true_and] at hd); simp [yielded, hd]; done)))); (focus (intro u w1 hw hd; (try simp only [depH] at hd); (try simp only [ext] at hd); (try simp only [extU] at hd); (try simp only [Nat.reduceAdd] at hd); (try simp only [Nat.reduceEqDiff] at hd); (try simp only [reduceIte] at hd); (try simp only [and_true] at hd); (try simp only [true_and] at hd); have hc' := hw.cell; first | (go_simp; exact rfl) | (go_simp; go_at_call 159; ((with_reducible refine (cP _ (h1.call hw.ins.bel) (hsp.call hw.ins.bel)).mono ?_)); rintro e w'' ⟨rfl, hb⟩; refine ⟨?_, hb⟩; exact rfl) | (go_simp; go_at_call 27; ((with_reducible refine (cD _).mono ?_)); rintro e w'' ⟨rfl, hb⟩; refine ⟨?_, hb⟩; exact rfl)))) | ((with_reducible refine flow_skipg (j := ?_) (b := ?_) ?_ ?_ ?_); rotate_left 2; (focus (with_reducible rfl)); (focus (intro u w1 hw hd; (try simp only [depH] at hd); (try simp only [ext] at hd); (try simp only [extU] at hd); (try simp only [Nat.reduceAdd] at hd); (try simp only [Nat.reduceEqDiff] at hd); (try simp only [reduceIte] at hd); (try simp only [and_true] at hd); (try simp only [true_and] at hd); simp [yielded, hd]; done))) | ((with_reducible refine flow_alloc (t := ?_) (zs := ?_) ?_ ?_ ?_ ?_); rotate_left 2; (focus (with_reducible rfl)); (focus rfl); (focus (intro u w1; go_simp; exact rfl)))))
          (try clear hc hf h); intro u w' h ha hdi; replace h := h.ins; (try simp only [World.size_alloc] at h); (try dsimp only at ha); (repeat rw [World.size_alloc] at ha); (try simp only [allH] at ha); (try simp only [ext] at ha); (try simp only [extU] at ha); (try simp only [Nat.reduceAdd] at ha); (try simp only [Nat.reduceEqDiff] at ha); (try simp only [reduceIte] at ha); (try simp only [and_true] at ha); (try simp only [true_and] at ha); have hc := h.cell; have hf := h.frozen
          obtain ⟨ha, G, hu, hGN, bg1⟩ := ha
          (try obtain ha := ha); (try dsimp only);  simp only [ha, hu]; clear ha hdi hu
          clear hc hf cD cP t0 t1 t2 t3 t4 tl
          have g0 := bg1.c0; have g1 := bg1.c1; have g2 := bg1.c2; have g3 := bg1.c3; have g4 := bg1.c4; have gl := bg1.lt
          have f0 := bg1.frozen 0; have f1 := bg1.frozen 1; have f2 := bg1.frozen 2; have f3 := bg1.frozen 3; have f4 := bg1.frozen 4
          ((have KB := Lib.hid (((((bg1.set 0 (.int .u64 F1)).set 1 (.string F2)).set 2 (.bool F3)).set 3 (.int .u64 F4)).set 4 (.string F5))); (have Kh := Lib.hid (((((h.setCell (p := ⟨G, 0, none⟩) (by first | (simp; done) | (simp; omega)) (.int .u64 F1)).setCell (p := ⟨G, 1, none⟩) (by first | (simp; done) | (simp; omega)) (.string F2)).setCell (p := ⟨G, 2, none⟩) (by first | (simp; done) | (simp; omega)) (.bool F3)).setCell (p := ⟨G, 3, none⟩) (by first | (simp; done) | (simp; omega)) (.int .u64 F4)).setCell (p := ⟨G, 4, none⟩) (by first | (simp; done) | (simp; omega)) (.string F5))); (clear bg1 h))
          go_upto_region 12 with fail
          ((have bg1 := KB.out); (have h := Kh.out); (simp only [List.set] at bg1); (clear KB Kh); (generalize ((((w'.setCell ⟨G, 0, none⟩ (.int .u64 F1)).setCell ⟨G, 1, none⟩ (.string F2)).setCell ⟨G, 2, none⟩ (.bool F3)).setCell ⟨G, 3, none⟩ (.int .u64 F4)).setCell ⟨G, 4, none⟩ (.string F5) = W5 at *))
          clear g0 g1 g2 g3 g4 gl f0 f1 f2 f3 f4
          have hb5 := h.bel
          replace bs1 := bs1.call hb5
          replace bS := bS.call hb5
          replace bT := bT.call hb5
          replace hsp := hsp.call hb5
          replace h1 := h1.call hb5
          clear h hb5
          have lXS : X < S := by have := HIN.out.siz; have := bs.lt; omega
          have y0 : World.cell? W5 ⟨S, 0, none⟩ = some (.slice xa n xc) := bS.cell 0; have y1 : World.cell? W5 ⟨S, 1, none⟩ = some (.slice r_a n r_c) := bS.cell 1; have y2 : World.cell? W5 ⟨S, 2, none⟩ = some (.slice pa n pc) := bS.cell 2; have y3 : World.cell? W5 ⟨S, 3, none⟩ = some (.int .u64 0) := bS.cell 3; have y4 : World.cell? W5 ⟨S, 4, none⟩ = some (.string ⟨#[]⟩) := bS.cell 4; have y5 : World.cell? W5 ⟨S, 5, none⟩ = some (.bool false) := bS.cell 5; have y6 : World.cell? W5 ⟨S, 6, none⟩ = some (.int .u64 0) := bS.cell 6; have y7 : World.cell? W5 ⟨S, 7, none⟩ = some (.string ⟨#[]⟩) := bS.cell 7; have y8 : World.cell? W5 ⟨S, 8, none⟩ = some (.int .u64 E1) := bS.cell 8; have y9 : World.cell? W5 ⟨S, 9, none⟩ = some (.string E2) := bS.cell 9; have y10 : World.cell? W5 ⟨S, 10, none⟩ = some (.bool E3) := bS.cell 10; have y11 : World.cell? W5 ⟨S, 11, none⟩ = some (.int .u64 E4) := bS.cell 11; have y12 : World.cell? W5 ⟨S, 12, none⟩ = some (.string E5) := bS.cell 12; have yl := bS.lt
          have g0 := bg1.c0; have g1 := bg1.c1; have g2 := bg1.c2; have g3 := bg1.c3; have g4 := bg1.c4; have gl := bg1.lt
          have f3 := bS.frozen 3
          have f4 := bS.frozen 4
          have f5 := bS.frozen 5
          have f6 := bS.frozen 6
          have f7 := bS.frozen 7
          ((have KB := Lib.hid (((((bS.set 3 (.int .u64 F1)).set 4 (.string F2)).set 5 (.bool F3)).set 6 (.int .u64 F4)).set 7 (.string F5))); (have Kh1 := Lib.hid (((((h1.setCell (p := ⟨S, 3, none⟩) (by first | (simp; done) | (simp; omega)) (.int .u64 F1)).setCell (p := ⟨S, 4, none⟩) (by first | (simp; done) | (simp; omega)) (.string F2)).setCell (p := ⟨S, 5, none⟩) (by first | (simp; done) | (simp; omega)) (.bool F3)).setCell (p := ⟨S, 6, none⟩) (by first | (simp; done) | (simp; omega)) (.int .u64 F4)).setCell (p := ⟨S, 7, none⟩) (by first | (simp; done) | (simp; omega)) (.string F5))); (have Kbs1 := Lib.hid (Bx.other (a := ⟨S, 7, none⟩) (Bx.other (a := ⟨S, 6, none⟩) (Bx.other (a := ⟨S, 5, none⟩) (Bx.other (a := ⟨S, 4, none⟩) (Bx.other (a := ⟨S, 3, none⟩) bs1 (by simp; omega) (.int .u64 F1)) (by simp; omega) (.string F2)) (by simp; omega) (.bool F3)) (by simp; omega) (.int .u64 F4)) (by simp; omega) (.string F5))); (have KbT := Lib.hid (Bx.other (a := ⟨S, 7, none⟩) (Bx.other (a := ⟨S, 6, none⟩) (Bx.other (a := ⟨S, 5, none⟩) (Bx.other (a := ⟨S, 4, none⟩) (Bx.other (a := ⟨S, 3, none⟩) bT (by simp; omega) (.int .u64 F1)) (by simp; omega) (.string F2)) (by simp; omega) (.bool F3)) (by simp; omega) (.int .u64 F4)) (by simp; omega) (.string F5))); (have Kbg1 := Lib.hid (Bx.other (a := ⟨S, 7, none⟩) (Bx.other (a := ⟨S, 6, none⟩) (Bx.other (a := ⟨S, 5, none⟩) (Bx.other (a := ⟨S, 4, none⟩) (Bx.other (a := ⟨S, 3, none⟩) bg1 (by simp; omega) (.int .u64 F1)) (by simp; omega) (.string F2)) (by simp; omega) (.bool F3)) (by simp; omega) (.int .u64 F4)) (by simp; omega) (.string F5))); (have Khsp := Lib.hid (VecAt.setS (u := (.string F5)) (VecAt.setS (u := (.int .u64 F4)) (VecAt.setS (u := (.bool F3)) (VecAt.setS (u := (.string F2)) (VecAt.setS (u := (.int .u64 F1)) hsp bS 3) (bS.set 3 (.int .u64 F1)) 4) ((bS.set 3 (.int .u64 F1)).set 4 (.string F2)) 5) (((bS.set 3 (.int .u64 F1)).set 4 (.string F2)).set 5 (.bool F3)) 6) ((((bS.set 3 (.int .u64 F1)).set 4 (.string F2)).set 5 (.bool F3)).set 6 (.int .u64 F4)) 7)); (clear bS h1 bs1 bT bg1 hsp))
          go_upto_region 15 with fail
          ((have bS := KB.out); (have h1 := Kh1.out); (have bs1 := Kbs1.out); (have bT := KbT.out); (have bg1 := Kbg1.out); (have hsp := Khsp.out); (simp only [List.set] at bS); (clear KB Kh1 Kbs1 KbT Kbg1 Khsp); (generalize ((((W5.setCell ⟨S, 3, none⟩ (.int .u64 F1)).setCell ⟨S, 4, none⟩ (.string F2)).setCell ⟨S, 5, none⟩ (.bool F3)).setCell ⟨S, 6, none⟩ (.int .u64 F4)).setCell ⟨S, 7, none⟩ (.string F5) = W6 at *))
          clear y0 y1 y2 y3 y4 y5 y6 y7 y8 y9 y10 y11 y12 yl g0 g1 g2 g3 g4 gl f3 f4 f5 f6 f7
          have y0 : World.cell? W6 ⟨S, 0, none⟩ = some (.slice xa n xc) := bS.cell 0; have y1 : World.cell? W6 ⟨S, 1, none⟩ = some (.slice r_a n r_c) := bS.cell 1; have y2 : World.cell? W6 ⟨S, 2, none⟩ = some (.slice pa n pc) := bS.cell 2; have y3 : World.cell? W6 ⟨S, 3, none⟩ = some (.int .u64 F1) := bS.cell 3; have y4 : World.cell? W6 ⟨S, 4, none⟩ = some (.string F2) := bS.cell 4; have y5 : World.cell? W6 ⟨S, 5, none⟩ = some (.bool F3) := bS.cell 5; have y6 : World.cell? W6 ⟨S, 6, none⟩ = some (.int .u64 F4) := bS.cell 6; have y7 : World.cell? W6 ⟨S, 7, none⟩ = some (.string F5) := bS.cell 7; have y8 : World.cell? W6 ⟨S, 8, none⟩ = some (.int .u64 E1) := bS.cell 8; have y9 : World.cell? W6 ⟨S, 9, none⟩ = some (.string E2) := bS.cell 9; have y10 : World.cell? W6 ⟨S, 10, none⟩ = some (.bool E3) := bS.cell 10; have y11 : World.cell? W6 ⟨S, 11, none⟩ = some (.int .u64 E4) := bS.cell 11; have y12 : World.cell? W6 ⟨S, 12, none⟩ = some (.string E5) := bS.cell 12; have yl := bS.lt
          obtain ⟨vs, hv1, hv2, hv3⟩ := HL0.out.call h1.bel
          have HV1 := Lib.hid hv1
          have HV2 := Lib.hid hv2
          have HV3 := Lib.hid hv3
          have HLT := Lib.hid HL0.out.lt
          have HX1 := Lib.hid (HX0.out.call h1.bel)
          have HR1 := Lib.hid (HR0.out.call h1.bel)
          have HP2 := Lib.hid (HP0.out.call h1.bel)
          have HIN1 := Lib.hid (HIN.out.call h1.bel)
          have HBS := Lib.hid bs1
          have HBT := Lib.hid bT
          have HBG := Lib.hid bg1
          have HSP := Lib.hid hsp
          have hVS : S < W6.heap.size := yl
          clear hv1 hv2 hv3 h1 bs1 bT bg1 bS hsp
          go_wp2_with (at_builtin; refine wpList_append_own _ rfl (.tmp 62) (.tmp 64) 35 rfl (X + 1) 61 i0 (.agg #[.slice none 0 0, .slice none 0 0, .slice none 0 0, .int .u64 0, .string ⟨#[]⟩, .bool false, .int .u64 0, .string ⟨#[]⟩, .int .u64 0, .string ⟨#[]⟩, .bool false, .int .u64 0, .string ⟨#[]⟩]) 13 184 Tryz.underlying35 hi0 hi1 hi2 hi3 rfl (by decide) (.slice la k lc) k (stl n A b s0 vs) rfl (HV2.out.alloc _) ⟨W6.heap.size, 0, none⟩ 1 1 [.slice xa n xc, .slice r_a n r_c, .slice pa n pc, .int .u64 F1, .string F2, .bool F3, .int .u64 F4, .string F5, .int .u64 E1, .string E2, .bool E3, .int .u64 E4, .string E5] rfl rfl ?c1 ?c2 ?c3 ?c4 ?c5 ?_)
          case c2 => repeat (first | exact rfl | refine ⟨rfl, ?_⟩)
          case c3 => simp only [maxLen]; omega
          case c4 => first | omega | (rw [World.size_alloc]; omega)
          case c5 => first | omega | (rw [World.size_alloc]; omega)
          intro v' w7 hown7 hgr _
          have hal : Below W6.heap.size W6 (W6.alloc (.cells #[.slice xa n xc, .slice r_a n r_c, .slice pa n pc, .int .u64 F1, .string F2, .bool F3, .int .u64 F4, .string F5, .int .u64 E1, .string E2, .bool E3, .int .u64 E4, .string E5] 61)) := (Below.refl _ _).alloc (Nat.le_refl _) _
          have hLA : LAt (W6.alloc (.cells #[.slice xa n xc, .slice r_a n r_c, .slice pa n pc, .int .u64 F1, .string F2, .bool F3, .int .u64 F4, .string F5, .int .u64 E1, .string E2, .bool E3, .int .u64 E4, .string E5] 61)) (X + 1) n A b s0 (.slice la k lc) k := LAt.call ⟨vs, HV1.out, HV2.out, HV3.out⟩ hal
          have hL := LAt.snoc (l' := v') HV1.out (HV2.out.alloc (.cells #[.slice xa n xc, .slice r_a n r_c, .slice pa n pc, .int .u64 F1, .string F2, .bool F3, .int .u64 F4, .string F5, .int .u64 E1, .string E2, .bool E3, .int .u64 E4, .string E5] 61)) (fun i hi => ⟨(HV3.out i hi).1.call hal, (HV3.out i hi).2.1.call hal, (HV3.out i hi).2.2.call hal⟩) (HX1.out.call hal) (HR1.out.call hal) (HP2.out.call hal) (by
            show World.ownsRow w7 (X + 1) 61 13 v' (k + 1) (stl n A b s0 vs ++ (.slice xa n xc :: .slice r_a n r_c :: .slice pa n pc :: (fcs ((s0.at n A k).far n A) ++ fcs (en n A b (s0.at n A k).x))))
            rw [← HFAR.out, ← HEN.out, HF'.out, HE'.out]; exact hown7) hgr
          have hx := hLA.vec hgr (HX1.out.call hal)
          have hr := hLA.vec hgr (HR1.out.call hal)
          have hp := hLA.vec hgr (HP2.out.call hal)
          have hsp := hLA.vec hgr (HSP.out.call hal)
          have bs7 := (HBS.out.alloc (.cells #[.slice xa n xc, .slice r_a n r_c, .slice pa n pc, .int .u64 F1, .string F2, .bool F3, .int .u64 F4, .string F5, .int .u64 E1, .string E2, .bool E3, .int .u64 E4, .string E5] 61)).grown hgr (fun h => by have := (HLT.out _ h.symm).1; omega)
          have bT := (HBT.out.alloc (.cells #[.slice xa n xc, .slice r_a n r_c, .slice pa n pc, .int .u64 F1, .string F2, .bool F3, .int .u64 F4, .string F5, .int .u64 E1, .string E2, .bool E3, .int .u64 E4, .string E5] 61)).grown hgr (fun h => by have := (HLT.out _ h.symm).2; omega)
          have bG := (HBG.out.alloc (.cells #[.slice xa n xc, .slice r_a n r_c, .slice pa n pc, .int .u64 F1, .string F2, .bool F3, .int .u64 F4, .string F5, .int .u64 E1, .string E2, .bool E3, .int .u64 E4, .string E5] 61)).grown hgr (fun h => by have := (HLT.out _ h.symm).2; omega)
          have hin7 : In X w w7 := by
            have h5 := HIN1.out.alloc (.cells #[.slice xa n xc, .slice r_a n r_c, .slice pa n pc, .int .u64 F1, .string F2, .bool F3, .int .u64 F4, .string F5, .int .u64 E1, .string E2, .bool E3, .int .u64 E4, .string E5] 61)
            exact ⟨h5.bel.grown hgr h5.siz (fun k h => by have := (HLT.out _ h).1; omega), Nat.le_trans h5.siz hgr.size⟩
          obtain ⟨g9, c9, rfl⟩ : ∃ g9 c9, v' = .slice (some ⟨g9, 0, none⟩) (k + 1) c9 := by
            rcases hown7.2 with ⟨_, hn⟩ | ⟨g9, c9, cur, h9, _⟩
            · omega
            · exact ⟨g9, c9, h9⟩
          clear hown7 hgr hal hLA HV1 HV2 HV3 HX1 HR1 HP2 HIN1 HBS HBT HBG HSP y0 y1 y2 y3 y4 y5 y6 y7 y8 y9 y10 y11 y12 yl
          have cX := run_x HZ.out hkn w7 _ _ hp hx
          rw [← HFAR.out, HF.out] at cX
          have g0 := bG.c0; have g1 := bG.c1; have g2 := bG.c2; have g3 := bG.c3; have g4 := bG.c4; have gl := bG.lt
          go_wp2_with fail
          ((with_reducible refine cX.mono ?_))
          rintro e w8 ⟨⟨xv', rfl, hx8⟩, hb⟩
          obtain ⟨xa', xc', hxe⟩ := hx8.shape
          rw [vl_length] at hxe
          subst hxe
          replace hL := hL.call hb
          replace hr := hr.call hb
          replace hp := hp.call hb
          replace hsp := hsp.call hb
          replace bs7 := bs7.call hb
          replace bT := bT.call hb
          replace bG := bG.call hb
          replace hin7 := hin7.call hb
          clear hb cX hx g0 g1 g2 g3 g4 gl
          have cN := fneg_any far
          obtain ⟨nf, hnf⟩ : ∃ x, x = -far := ⟨_, rfl⟩
          rw [← hnf, HF.out] at cN
          obtain ⟨N1, N2, N3, N4, N5, hN, hN'⟩ : ∃ A1 A2 A3 A4 A5, fracV nf = .agg #[.int .u64 A1, .string A2, .bool A3, .int .u64 A4, .string A5] ∧ fcs nf = [.int .u64 A1, .string A2, .bool A3, .int .u64 A4, .string A5] := ⟨_, _, _, _, _, rfl, rfl⟩
          rw [hN] at cN
          have g0 := bG.c0; have g1 := bG.c1; have g2 := bG.c2; have g3 := bG.c3; have g4 := bG.c4; have gl := bG.lt
          go_wp2_with fail
          ((with_reducible refine (cN _).mono ?_))
          rintro e w9 ⟨rfl, hb⟩
          replace hL := hL.call hb
          replace hx8 := hx8.call hb
          replace hr := hr.call hb
          replace hp := hp.call hb
          replace hsp := hsp.call hb
          replace bs7 := bs7.call hb
          replace bT := bT.call hb
          replace bG := bG.call hb
          replace hin7 := hin7.call hb
          have cR := run_r HZ.out hkn w9 _ _ hsp hr
          rw [← HFAR.out, ← hnf, hN] at cR
          clear hb cN hnf hN hN' g0 g1 g2 g3 g4 gl
          go_wp2_with fail
          ((with_reducible refine cR.mono ?_))
          rintro e w10 ⟨⟨rv', rfl, hr10⟩, hb⟩
          obtain ⟨r_a', r_c', hre⟩ := hr10.shape
          rw [vl_length] at hre
          subst hre
          replace hL := hL.call hb
          replace hx8 := hx8.call hb
          replace hp := hp.call hb
          replace bs7 := bs7.call hb
          replace bT := bT.call hb
          replace hin7 := hin7.call hb
          clear hb cR hr hsp bG
          have cR2 := fun W (hd : VecAt W (.slice r_a' n r_c') (vl n (s0.at n A (k + 1)).r)) => run_rr2 HZ.out hkn W _ _ hd hd
          have cB := fun W => run_beta HZ.out hkn (by rw [← HQ.out]; exact HZ0.out) W
          rw [← HQ.out, HQ'.out] at cB
          obtain ⟨q2, hq2⟩ : ∃ x, x = dt n (s0.at n A (k + 1)).r (s0.at n A (k + 1)).r := ⟨_, rfl⟩
          rw [← hq2] at cR2 cB
          obtain ⟨bt, hbt⟩ : ∃ x, x = beta n A s0 k := ⟨_, rfl⟩
          rw [← hbt] at cB
          obtain ⟨B1, B2, B3, B4, B5, hB, hB'⟩ : ∃ A1 A2 A3 A4 A5, fracV bt = .agg #[.int .u64 A1, .string A2, .bool A3, .int .u64 A4, .string A5] ∧ fcs bt = [.int .u64 A1, .string A2, .bool A3, .int .u64 A4, .string A5] := ⟨_, _, _, _, _, rfl, rfl⟩
          rw [hB] at cB
          have HBT := Lib.hid hbt
          have HB := Lib.hid hB
          clear hq2 hbt hB hB'
          go_upto_region 18 with fail
          have t0 := bT.c0; have t1 := bT.c1; have t2 := bT.c2; have t3 := bT.c3; have t4 := bT.c4; have tl := bT.lt
          have h := In.self w10
          have hc := h.cell
          refine wp_region_flow 9 (by kernel_rfl) (by kernel_rfl) (fun _ _ d _ _ h => by cases d <;> exact h) ?_; simp only [List.take_succ_cons, List.take_zero, List.drop_succ_cons, List.drop_zero]; simp only [putAll, Act.put, List.setIfInBounds_toArray, List.set]; (try simp only [Nat.reduceAdd]); (try simp only [Nat.zero_add]); (repeat (first | ((with_reducible refine flow_float (v := ?_) ?_ ?_ ?_); rotate_left 1; (focus (with_reducible rfl)); (focus (intro u w1 hw hd w2; (try simp only [depH] at hd); (try simp only [ext] at hd); (try simp only [extU] at hd); (try simp only [Nat.reduceAdd] at hd); (try simp only [Nat.reduceEqDiff] at hd); (try simp only [reduceIte] at hd); (try simp only [and_true] at hd); (try simp only [true_and] at hd); go_simp; exact rfl))) | ((first | ((with_reducible refine flow_pure0 (v := ?_) ?_ ?_ ?_ ?_); rotate_left 1; (focus (with_reducible rfl)); (focus rfl)) | ((with_reducible refine flow_pureg (v := ?_) (j := ?_) (b := ?_) ?_ ?_ ?_ ?_); rotate_left 3; (focus (with_reducible rfl)); (focus (intro u w1 hw hd; (try simp only [depH] at hd); (try simp only [ext] at hd); (try simp only [extU] at hd); (try simp only [Nat.reduceAdd] at hd); (try simp only [Nat.reduceEqDiff] at hd); (try simp only [reduceIte] at hd); (try simp only [and_true] at hd); (try simp only [true_and] at hd); simp [yielded, hd]; done)))); (focus (intro u w1 hw hd; (try simp only [depH] at hd); (try simp only [ext] at hd); (try simp only [extU] at hd); (try simp only [Nat.reduceAdd] at hd); (try simp only [Nat.reduceEqDiff] at hd); (try simp only [reduceIte] at hd); (try simp only [and_true] at hd); (try simp only [true_and] at hd); have hc' := hw.cell; first | (go_simp; exact rfl) | (go_simp; go_at_call 159; ((with_reducible refine (cR2 _ (hr10.call hw.ins.bel)).mono ?_)); rintro e w'' ⟨rfl, hb⟩; refine ⟨?_, hb⟩; exact rfl) | (go_simp; go_at_call 27; ((with_reducible refine (cB _).mono ?_)); rintro e w'' ⟨rfl, hb⟩; refine ⟨?_, hb⟩; exact rfl)))) | ((with_reducible refine flow_skipg (j := ?_) (b := ?_) ?_ ?_ ?_); rotate_left 2; (focus (with_reducible rfl)); (focus (intro u w1 hw hd; (try simp only [depH] at hd); (try simp only [ext] at hd); (try simp only [extU] at hd); (try simp only [Nat.reduceAdd] at hd); (try simp only [Nat.reduceEqDiff] at hd); (try simp only [reduceIte] at hd); (try simp only [and_true] at hd); (try simp only [true_and] at hd); simp [yielded, hd]; done))) | ((with_reducible refine flow_alloc (t := ?_) (zs := ?_) ?_ ?_ ?_ ?_); rotate_left 2; (focus (with_reducible rfl)); (focus rfl); (focus (intro u w1; go_simp; exact rfl)))))
          (try clear hc hf h); intro u w' h ha hdi; replace h := h.ins; (try simp only [World.size_alloc] at h); (try dsimp only at ha); (repeat rw [World.size_alloc] at ha); (try simp only [allH] at ha); (try simp only [ext] at ha); (try simp only [extU] at ha); (try simp only [Nat.reduceAdd] at ha); (try simp only [Nat.reduceEqDiff] at ha); (try simp only [reduceIte] at ha); (try simp only [and_true] at ha); (try simp only [true_and] at ha); have hc := h.cell; have hf := h.frozen
          obtain ⟨ha, G2, hu, hGN2, bg2⟩ := ha
          (try obtain ha := ha); (try dsimp only);  simp only [ha, hu]; clear ha hdi hu
          clear hc hf cB cR2 t0 t1 t2 t3 t4 tl
          have g0 := bg2.c0; have g1 := bg2.c1; have g2 := bg2.c2; have g3 := bg2.c3; have g4 := bg2.c4; have gl := bg2.lt
          have f0 := bg2.frozen 0; have f1 := bg2.frozen 1; have f2 := bg2.frozen 2; have f3 := bg2.frozen 3; have f4 := bg2.frozen 4
          ((have KB := Lib.hid (((((bg2.set 0 (.int .u64 B1)).set 1 (.string B2)).set 2 (.bool B3)).set 3 (.int .u64 B4)).set 4 (.string B5))); (have Kh := Lib.hid (((((h.setCell (p := ⟨G2, 0, none⟩) (by first | (simp; done) | (simp; omega)) (.int .u64 B1)).setCell (p := ⟨G2, 1, none⟩) (by first | (simp; done) | (simp; omega)) (.string B2)).setCell (p := ⟨G2, 2, none⟩) (by first | (simp; done) | (simp; omega)) (.bool B3)).setCell (p := ⟨G2, 3, none⟩) (by first | (simp; done) | (simp; omega)) (.int .u64 B4)).setCell (p := ⟨G2, 4, none⟩) (by first | (simp; done) | (simp; omega)) (.string B5))); (clear bg2 h))
          go_upto_region 19 with fail
          ((have bg2 := KB.out); (have h := Kh.out); (simp only [List.set] at bg2); (clear KB Kh); (generalize ((((w'.setCell ⟨G2, 0, none⟩ (.int .u64 B1)).setCell ⟨G2, 1, none⟩ (.string B2)).setCell ⟨G2, 2, none⟩ (.bool B3)).setCell ⟨G2, 3, none⟩ (.int .u64 B4)).setCell ⟨G2, 4, none⟩ (.string B5) = W11 at *))
          clear g0 g1 g2 g3 g4 gl f0 f1 f2 f3 f4
          have hb := h.bel
          replace hL := hL.call hb
          replace hx8 := hx8.call hb
          replace hr10 := hr10.call hb
          replace hp := hp.call hb
          replace bs7 := bs7.call hb
          replace hin7 := hin7.call hb
          clear hb h bT
          have cP2 := run_p HZ.out hkn W11 _ _ hp hr10
          rw [← HBT.out, HB.out] at cP2
          have g0 := bg2.c0; have g1 := bg2.c1; have g2 := bg2.c2; have g3 := bg2.c3; have g4 := bg2.c4; have gl := bg2.lt
          go_wp2_with fail
          ((with_reducible refine cP2.mono ?_))
          rintro e w12 ⟨⟨pv', rfl, hp12⟩, hb⟩
          obtain ⟨pa', pc', hpe⟩ := hp12.shape
          rw [vl_length] at hpe
          subst hpe
          replace hL := hL.call hb
          replace hx8 := hx8.call hb
          replace hr10 := hr10.call hb
          replace bs7 := bs7.call hb
          replace hin7 := hin7.call hb
          have hkw : IntKind.i64.wrap ((k : Int) + 1) = ((k + 1 : Nat) : Int) := IntWalk.i64_in _ (by omega)
          have J1 := Lib.hid hL
          have J2 := Lib.hid hx8
          have J3 := Lib.hid hr10
          have J4 := Lib.hid hp12
          have J5 := Lib.hid bs7
          have J6 := Lib.hid hin7
          clear hb cP2 hp hL hx8 hr10 hp12 bs7 hin7 bg2 g0 g1 g2 g3 g4 gl
          go_wp2_with fail
          exact ⟨⟨k + 1, _, _, _, _, by omega, by go_num, rfl, rfl, rfl, rfl, J6.out, J5.out, J1.out, J2.out, J3.out, J4.out, Lib.hid fun i hi => by
            by_cases hik : i < k
            · exact HNZ.out i hik
            · obtain rfl : i = k := by omega
              exact ⟨by rw [← HQ.out]; exact HZ0.out, by rw [← HPQ.out]; exact HP1.out⟩⟩, by simp [RowKit.intOf]; omega⟩
    · have hkI : ¬ (k : Int) < ((n + 1 : Nat) : Int) := by omega
      have hno : ∀ j, ¬ Fin n A s0 j := fun j h => (HNZ.out j (by have := h.1; omega)).1 h.2.1
      have HNO := Lib.hid hno
      have HIN := Lib.hid hin
      clear hno hin bs hL hx hr hp
      go_wp2_with fail
      exact bodyPost_ret (v := .tuple #[.slice none 0 0, .int .i64 11]) (by simp [results, Tryz.results74, go_sem]) rfl ⟨.inr ⟨HNO.out, rfl⟩, by rw [← HX.out]; exact HIN.out.bel⟩
end Gus
end
section
/- cgs: the checks ahead of a run. -/
namespace Gus
open Go Go.RowKit Go.Proofs
/-- a slice of slices of these lengths -/
def SlsAt (w : World) (a : Option Addr) (xs : List Nat) : Prop := ∀ i, i < xs.length → ∃ b off v c, a = some ⟨b, off, none⟩ ∧ b < w.heap.size ∧ w.cell? ⟨b, off + i, none⟩ = some (.slice v (xs.getD i 0) c)
theorem SlsAt.call {w w' : World} {a : Option Addr} {xs : List Nat} (h : SlsAt w a xs) (hb : Below w.heap.size w w') : SlsAt w' a xs := fun i hi => by
  obtain ⟨b, off, v, c, h1, h2, h3⟩ := h i hi
  exact ⟨b, off, v, c, h1, Nat.lt_of_lt_of_le h2 hb.size, by rw [hb.cell (p := ⟨b, off + i, none⟩) h2]; exact h3⟩
def IdxPostV (w : World) (xs : List Nat) (p : Nat → Bool) (e : Ending) (w' : World) : Prop := (∃ z : Int, e = .returned (.int .i64 z) ∧ decide (0 ≤ z) = xs.any p) ∧ Below w.heap.size w w'
set_option maxRecDepth 100000 in
set_option maxHeartbeats 2000000 in
theorem vidx_any (p : Nat → Bool) (w : World) (a : Option Addr) (cap : Nat) (xs : List Nat) (hx : SlsAt w a xs) (hl : xs.length ≤ 4096) (g : Nat) (cb : Array Value) (eg : ∀ args w, (callFunc g args).run Tryz.prog w = .ok (.enter g args) w)
    (hcl : ∀ v x c W, In w.heap.size w W → Calls Tryz.prog g (#[.slice v x c] ++ cb) W fun e w' => e = .returned (.bool (p x)) ∧ Below W.heap.size W w') :
    Calls Tryz.prog 229 #[.slice a xs.length cap, .func (.func g) #[] cb] w (IdxPostV w xs p) := by
  obtain ⟨L, hL⟩ : ∃ L, L = xs.length := ⟨_, rfl⟩
  unfold SlsAt at hx
  rw [← hL] at hx hl ⊢
  have HX := Lib.hid hx
  have HC := Lib.hid hcl
  have HL := Lib.hid hL
  clear hx hcl hL
  go_enter Tryz.func229, Tryz.ntmps229
  go_wp2_with fail
  go_loopw [8] (fun v8 wr => ∃ i : Nat, i ≤ L ∧ v8 = .int .i64 i ∧ In w.heap.size w wr ∧ Hid (xs.any p = (xs.drop i).any p)) (fun v8 _ => L - (RowKit.intOf v8).toNat)
  case atStart => exact ⟨0, Nat.zero_le _, rfl, In.self _, Lib.hid rfl⟩
  case round =>
    obtain ⟨i, hi, rfl, hin, HA⟩ := hrel
    by_cases hiL : i < L
    · obtain ⟨b, off, va, vc, rfl, hb, hc⟩ := HX.out i hiL
      have hd := drop_getD xs 0 (show i < xs.length by rw [← HL.out]; exact hiL)
      obtain ⟨x, hx⟩ : ∃ x, x = xs.getD i 0 := ⟨_, rfl⟩
      rw [← hx] at hc hd
      rw [← hin.cell b _ hb] at hc
      have hbw : b < wr.heap.size := by have := hin.siz; omega
      have hcon := HC.out va x vc wr hin
      have hiI : (i : Int) < L := by omega
      have hi0 : (0 : Int) ≤ i := by omega
      have hiw : IntKind.i64.wrap ((i : Int) + 1) = ((i + 1 : Nat) : Int) := IntWalk.i64_in _ (by omega)
      have ha := HA.out
      rw [hd, List.any_cons] at ha
      obtain ⟨y, hy⟩ : ∃ y, y = p x := ⟨_, rfl⟩
      rw [← hy] at hcon ha
      have HAA := Lib.hid ha
      clear hd hx hy ha HA
      rcases y with _ | _
      · go_wp2_with fail
        (refine hcon.mono ?_)
        rintro e w2 ⟨rfl, hb2⟩
        have hin2 := hin.call hb2
        clear hb2 hcon hc hbw hin
        go_wp2_with fail
        exact ⟨⟨i + 1, by omega, by go_num, hin2, Lib.hid (by rw [HAA.out, Bool.false_or])⟩, by simp [RowKit.intOf]; omega⟩
      · go_wp2_with fail
        (refine hcon.mono ?_)
        rintro e w2 ⟨rfl, hb2⟩
        have hin2 := hin.call hb2
        clear hb2 hcon hc hbw hin
        go_wp2_with fail
        go_ret
        exact ⟨⟨i, rfl, by rw [HAA.out, Bool.true_or]; exact decide_eq_true hi0⟩, hin2.bel⟩
    · have hiI : ¬ (i : Int) < L := by omega
      have ha := HA.out
      rw [List.drop_eq_nil_of_le (by rw [← HL.out]; omega)] at ha
      have HAA := Lib.hid ha
      clear ha HA
      go_wp2_with fail
      go_ret
      exact ⟨⟨-1, rfl, by rw [HAA.out]; rfl⟩, hin.bel⟩
theorem vcont_any (p : Nat → Bool) (w : World) (a : Option Addr) (cap : Nat) (xs : List Nat) (hx : SlsAt w a xs) (hl : xs.length ≤ 4096) (g : Nat) (cb : Array Value) (eg : ∀ args w, (callFunc g args).run Tryz.prog w = .ok (.enter g args) w)
    (hcl : ∀ v x c W, In w.heap.size w W → Calls Tryz.prog g (#[.slice v x c] ++ cb) W fun e w' => e = .returned (.bool (p x)) ∧ Below W.heap.size W w') :
    Calls Tryz.prog 154 #[.slice a xs.length cap, .func (.func g) #[] cb] w fun e w' => e = .returned (.bool (xs.any p)) ∧ Below w.heap.size w w' := by
  have h1 := vidx_any p w a cap xs hx hl g cb eg hcl
  obtain ⟨y, hy⟩ : ∃ y, y = xs.any p := ⟨_, rfl⟩
  rw [← hy]
  have HY := Lib.hid hy
  clear hy hx hcl
  go_enter Tryz.func154, Tryz.ntmps154
  go_wp2_with fail
  ((with_reducible refine h1.mono ?_))
  rintro e w2 ⟨⟨z, rfl, hz⟩, hb⟩
  rw [← HY.out] at hz
  have HZ := Lib.hid hz
  clear hz h1
  go_wp2_with fail
  go_ret
  exact ⟨(show Ending.returned (.bool (decide (0 ≤ z))) = .returned (.bool y) by rw [HZ.out]), hb⟩
set_option maxRecDepth 100000 in
theorem begin1_any (v : Option Addr) (x c : Nat) (W : World) :
    Calls Tryz.prog 155 #[.slice v x c] W fun e w' => e = .returned (.bool (decide (2048 < x))) ∧ Below W.heap.size W w' := by
  by_cases h : 2048 < x
  · have h1 : (2048 : Int) < x := by omega
    rw [decide_eq_true h]
    go_enter Tryz.func155, Tryz.ntmps155
    go_wp2_with fail
    go_ret
    exact ⟨rfl, by (refine In.bel ?_; (repeat (first | (refine In.setCell ?_ (by first | omega | (simp; done) | (simp; omega)) _) | (refine In.alloc ?_ _) | (refine In.drew ?_))); (first | exact In.self _ | (refine In.out h ?_ (by first | omega | (simp; done) | (simp; omega)); (repeat (first | (refine In.setCell ?_ (by first | omega | (simp; done) | (simp; omega)) _) | (refine In.alloc ?_ _) | (refine In.drew ?_))); exact In.self _)))⟩
  · have h1 : ¬ (2048 : Int) < x := by omega
    rw [decide_eq_false h]
    go_enter Tryz.func155, Tryz.ntmps155
    go_wp2_with fail
    go_ret
    exact ⟨rfl, by (refine In.bel ?_; (repeat (first | (refine In.setCell ?_ (by first | omega | (simp; done) | (simp; omega)) _) | (refine In.alloc ?_ _) | (refine In.drew ?_))); (first | exact In.self _ | (refine In.out h ?_ (by first | omega | (simp; done) | (simp; omega)); (repeat (first | (refine In.setCell ?_ (by first | omega | (simp; done) | (simp; omega)) _) | (refine In.alloc ?_ _) | (refine In.drew ?_))); exact In.self _)))⟩
set_option maxRecDepth 100000 in
theorem begin2_any (v : Option Addr) (x c : Nat) (X : Nat) (n m : Int) (r : Value) (W : World) (hX : Bx W X 30 [.int .i64 n, .int .i64 m, r]) :
    Calls Tryz.prog 156 #[.slice v x c, .pointer (some ⟨X, 0, none⟩)] W fun e w' => e = .returned (.bool (!decide ((x : Int) = n))) ∧ Below W.heap.size W w' := by
  have x0 := hX.c0; have x1 := hX.c1; have x2 := hX.c2; have xl := hX.lt
  by_cases h : (x : Int) = n
  · have h1 : ((x : Int) != n) = false := by simpa using h
    rw [decide_eq_true h]
    have HH := Lib.hid h
    clear h hX
    go_enter Tryz.func156, Tryz.ntmps156
    go_wp2_with fail
    go_ret
    exact ⟨rfl, by (refine In.bel ?_; (repeat (first | (refine In.setCell ?_ (by first | omega | (simp; done) | (simp; omega)) _) | (refine In.alloc ?_ _) | (refine In.drew ?_))); (first | exact In.self _ | (refine In.out h ?_ (by first | omega | (simp; done) | (simp; omega)); (repeat (first | (refine In.setCell ?_ (by first | omega | (simp; done) | (simp; omega)) _) | (refine In.alloc ?_ _) | (refine In.drew ?_))); exact In.self _)))⟩
  · have h1 : ((x : Int) != n) = true := by simpa using h
    rw [decide_eq_false h]
    clear h hX
    go_enter Tryz.func156, Tryz.ntmps156
    go_wp2_with fail
    go_ret
    exact ⟨rfl, by (refine In.bel ?_; (repeat (first | (refine In.setCell ?_ (by first | omega | (simp; done) | (simp; omega)) _) | (refine In.alloc ?_ _) | (refine In.drew ?_))); (first | exact In.self _ | (refine In.out h ?_ (by first | omega | (simp; done) | (simp; omega)); (repeat (first | (refine In.setCell ?_ (by first | omega | (simp; done) | (simp; omega)) _) | (refine In.alloc ?_ _) | (refine In.drew ?_))); exact In.self _)))⟩
theorem info_vec : (Tryz.prog.info? 33).map (fun i => (i.zero, i.size, i.bytes)) = some (some (.slice none 0 0), 1, 24) := by kernel_rfl
/-- the error of a system's parts -/
def beginE (chk : Int) (sy : Bool) (lens : List Nat) (n : Int) : Int :=
  if chk ≠ 0 then chk else if sy = false then 1 else if lens.any (fun x => decide (2048 < x)) = true then 3 else if lens.any (fun x => !decide ((x : Int) = n)) = true then 1 else 0
abbrev zeroSys : Value := .agg #[.int .i64 0, .int .i64 0, .slice none 0 0, .slice none 0 0]
theorem SlsAt.own {w : World} {base : Nat} {v : Value} {a : Option Addr} {ba xa : Option Addr} {bn bc xn xc cap : Nat} (hv : v = .slice a 2 cap) (h : w.ownsRow base 33 1 v 2 [.slice ba bn bc, .slice xa xn xc]) : SlsAt w a [bn, xn] := fun i hi => by
  subst hv
  rcases h.2 with ⟨_, hn⟩ | ⟨g, c, cur, hv, _, hg, _⟩
  · omega
  · simp only [Value.slice.injEq] at hv
    have hcell := fun j u hj => h.cells (g := g) (by rw [hv.1]; rfl) j u hj
    have hlt := (Array.getElem?_eq_some_iff.1 hg).1
    have hi2 : i = 0 ∨ i = 1 := by simp at hi; omega
    rcases hi2 with rfl | rfl
    · have := hcell 0 _ rfl
      rw [Addr.add_lit] at this
      exact ⟨g, 0, ba, bc, hv.1, hlt, this⟩
    · have := hcell 1 _ rfl
      rw [Addr.add_lit] at this
      exact ⟨g, 0, xa, xc, hv.1, hlt, this⟩
set_option maxRecDepth 100000 in
set_option maxHeartbeats 4000000 in
theorem begin_one (w : World) (n m : Int) (ra : Option Addr) (rl rc : Nat) (ba xa : Option Addr) (bn bc xn xc : Nat) (M : Addr) (mc : Nat) (chk : Int) (sy : Bool) (hM : w.cell? M = some (.slice xa xn xc)) (hMs : M.spot = none)
    (hchk : ∀ W, In w.heap.size w W → Calls Tryz.prog 37 #[.agg #[.int .i64 n, .int .i64 m, .slice ra rl rc]] W fun e w' => e = .returned (.int .i64 chk) ∧ Below W.heap.size W w')
    (hsy : ∀ W, In w.heap.size w W → Calls Tryz.prog 38 #[.agg #[.int .i64 n, .int .i64 m, .slice ra rl rc]] W fun e w' => e = .returned (.bool sy) ∧ Below W.heap.size W w') :
    Calls Tryz.prog 73 #[.agg #[.int .i64 n, .int .i64 m, .slice ra rl rc], .slice ba bn bc, .slice (some M) 1 mc] w fun e w' => e = .returned (.tuple #[if beginE chk sy [bn, xn] n = 0 then .agg #[.int .i64 n, .int .i64 m, .slice ra rl rc, .slice ba bn bc] else zeroSys, .int .i64 (beginE chk sy [bn, xn] n)]) ∧ Below w.heap.size w w' := by
  obtain ⟨R, hR⟩ : ∃ R, R = (Value.tuple #[if beginE chk sy [bn, xn] n = 0 then .agg #[.int .i64 n, .int .i64 m, .slice ra rl rc, .slice ba bn bc] else zeroSys, .int .i64 (beginE chk sy [bn, xn] n)]) := ⟨_, rfl⟩
  rw [← hR]
  have HR := Lib.hid hR
  clear hR
  obtain ⟨i0, hi0, hi1, hi2, hi3⟩ := info_parts info_vec
  obtain ⟨Mb, Mo, Ms⟩ := M
  obtain rfl : Ms = none := hMs
  have hMb : Mb < w.heap.size := by
    rcases Nat.lt_or_ge Mb w.heap.size with h | h
    · exact h
    · have : w.heap[Mb]? = none := by simp [h]
      simp [World.cell?, this] at hM
  have eg1 : ∀ args w, (callFunc 155 args).run Tryz.prog w = .ok (.enter 155 args) w := enters_of Tryz.func155 (by kernel_rfl) rfl
  have eg2 : ∀ args w, (callFunc 156 args).run Tryz.prog w = .ok (.enter 156 args) w := enters_of Tryz.func156 (by kernel_rfl) rfl
  go_enter Tryz.func73, Tryz.ntmps73
  go_upto_region 1 with fail
  ((obtain ⟨X, hXX⟩ : ∃ z, z = w.heap.size := ⟨_, rfl⟩); (have bV0 := ((Bx.new_at w #[.int .i64 n, .int .i64 m, .slice ra rl rc] 30 (n := X) (by simp [hXX])).alloc (.cells #[.int .i64 0, .int .i64 0, .slice none 0 0, .slice none 0 0] 150))); (have bV1 := (Bx.new_at (w.alloc (.cells #[.int .i64 n, .int .i64 m, .slice ra rl rc] 30)) #[.int .i64 0, .int .i64 0, .slice none 0 0, .slice none 0 0] 150 (n := X + 1) (by simp [hXX]))); (have hV := (((In.self w).alloc (.cells #[.int .i64 n, .int .i64 m, .slice ra rl rc] 30)).alloc (.cells #[.int .i64 0, .int .i64 0, .slice none 0 0, .slice none 0 0] 150))); (rw [← hXX] at hV ⊢); (have HX := Lib.hid hXX); (clear hXX); (generalize (w.alloc (.cells #[.int .i64 n, .int .i64 m, .slice ra rl rc] 30)).alloc (.cells #[.int .i64 0, .int .i64 0, .slice none 0 0, .slice none 0 0] 150) = V at *))
  have hV' := hV
  rw [HX.out] at hV'
  have x0 := bV0.c0; have x1 := bV0.c1; have x2 := bV0.c2; have xl := bV0.lt
  go_wp2_with fail
  ((with_reducible refine (hchk _ hV').mono ?_))
  rintro e w2 ⟨rfl, hb⟩
  have hin := hV.call hb
  have bs := bV0.call hb
  have bq := bV1.call hb
  clear hb hV hV' bV0 bV1 hchk x0 x1 x2 xl
  by_cases hc0 : chk = 0
  · subst hc0
    have hinw := hin
    rw [HX.out] at hinw
    have x0 := bs.c0; have x1 := bs.c1; have x2 := bs.c2; have xl := bs.lt
    go_wp2_with fail
    ((with_reducible refine (hsy _ hinw).mono ?_))
    rintro e w3 ⟨rfl, hb⟩
    replace hin := hin.call hb
    replace bs := bs.call hb
    replace bq := bq.call hb
    clear hb hinw hsy x0 x1 x2 xl
    rcases sy with _ | _
    · have he : Hid (beginE 0 false [bn, xn] n = 1) := Lib.hid (by unfold beginE; rw [if_neg (by simp), if_pos rfl])
      clear bs hM
      ((have q0 := bq.c0); (have q1 := bq.c1); (have q2 := bq.c2); (have q3 := bq.c3); (have f0 := bq.frozen 0); (have f1 := bq.frozen 1); (have f2 := bq.frozen 2); (have f3 := bq.frozen 3); (have ql := bq.lt); (have K1 := Lib.hid (((((bq.set 0 (.int .i64 0)).set 1 (.int .i64 0)).set 2 (.slice none 0 0)).set 3 (.slice none 0 0)))); (have K2 := Lib.hid (((((hin.setCell (p := ⟨(X + 1), 0, none⟩) (by first | (simp; done) | (have := HX.out; simp; omega)) (.int .i64 0)).setCell (p := ⟨(X + 1), 1, none⟩) (by first | (simp; done) | (have := HX.out; simp; omega)) (.int .i64 0)).setCell (p := ⟨(X + 1), 2, none⟩) (by first | (simp; done) | (have := HX.out; simp; omega)) (.slice none 0 0)).setCell (p := ⟨(X + 1), 3, none⟩) (by first | (simp; done) | (have := HX.out; simp; omega)) (.slice none 0 0)))); (clear bq hin); (go_wp2_with fail); (have k1 := K1.out); (have k2 := K2.out); (clear q0 q1 q2 q3 f0 f1 f2 f3 ql K1 K2); (generalize (((w3.setCell ⟨(X + 1), 0, none⟩ (.int .i64 0)).setCell ⟨(X + 1), 1, none⟩ (.int .i64 0)).setCell ⟨(X + 1), 2, none⟩ (.slice none 0 0)).setCell ⟨(X + 1), 3, none⟩ (.slice none 0 0) = W5 at *); (have e0 : W5.cell? ⟨(X + 1), 0, none⟩ = some (.int .i64 0) := k1.cell 0); (have e1 : W5.cell? ⟨(X + 1), 1, none⟩ = some (.int .i64 0) := k1.cell 1); (have e2 : W5.cell? ⟨(X + 1), 2, none⟩ = some (.slice none 0 0) := k1.cell 2); (have e3 : W5.cell? ⟨(X + 1), 3, none⟩ = some (.slice none 0 0) := k1.cell 3); (have hz := k2.bel); (refine bodyPost_ret (v := .tuple #[.agg #[.int .i64 0, .int .i64 0, .slice none 0 0, .slice none 0 0], .int .i64 1]) ?_ rfl ⟨by rw [HR.out, he.out, if_neg (by decide)], by rw [← HX.out]; exact hz⟩); (simp [results, Tryz.results73, go_sem, e0, e1, e2, e3]))
    · have hM3 : (w3.alloc (.cells #[.slice ba bn bc] 33)).cell? ⟨Mb, Mo, none⟩ = some (.slice xa xn xc) := by rw [(hin.alloc _).cell Mb Mo (by rw [HX.out]; exact hMb)]; exact hM
      have HM3 := Lib.hid hM3
      clear hM hM3
      go_wp2_with (at_builtin; refine wpList_append_grows _ rfl (.tmp 21) (.tmp 22) 99 rfl 33 i0 (.slice none 0 0) 1 24 Tryz.underlying99 hi0 hi1 hi2 hi3 rfl (by decide) (some ⟨w3.heap.size, 0, none⟩) 1 1 [.slice ba bn bc] rfl (by simp) rfl ?c0 ⟨Mb, Mo, none⟩ 1 mc [.slice xa xn xc] rfl rfl ?c2 ?c3 (by decide) ?c5 ?c6 ?_)
      case c0 =>
        intro b hb j u hj
        obtain rfl := Option.some.inj hb
        rw [Addr.add_lit, Nat.zero_add, (Bx.new_at w3 #[.slice ba bn bc] 33 rfl).cell j]; exact hj
      case c2 =>
        intro j u hj
        rcases j with _ | j
        · rw [Addr.add_lit, Nat.add_zero, HM3.out]; exact hj
        · simp at hj
      case c3 =>
        intro u hu
        simp only [List.mem_cons, List.not_mem_nil, or_false] at hu
        subst hu; rfl
      case c5 => simp only [maxLen]; omega
      case c6 => omega
      intro v' w4 hown hgr
      have hb : Below w3.heap.size w3 w4 := ((Below.refl _ _).alloc (Nat.le_refl _) (.cells #[.slice ba bn bc] 33)).trans (Below.mono (B := (w3.alloc (.cells #[.slice ba bn bc] 33)).heap.size) ⟨hgr.os, hgr.tape, hgr.output, hgr.size, fun k hk => hgr.block k hk (by simp)⟩ (by rw [World.size_alloc]; omega))
      replace hin := hin.call hb
      replace bs := bs.call hb
      replace bq := bq.call hb
      obtain ⟨g, gc, rfl, hS⟩ : ∃ g gc, v' = .slice g 2 gc ∧ SlsAt w4 g [bn, xn] := by
        rcases hown.2 with ⟨_, hn⟩ | ⟨g, c, cur, hv, _, hg, _⟩
        · omega
        · exact ⟨_, _, hv, SlsAt.own hv hown⟩
      clear hown hgr hb HM3
      have h1 := vcont_any (fun x => decide (2048 < x)) w4 g gc [bn, xn] hS (by simp) 155 #[] eg1 (fun v x c W _ => begin1_any v x c W)
      obtain ⟨y1, hy1⟩ : ∃ y, y = [bn, xn].any (fun x => decide (2048 < x)) := ⟨_, rfl⟩
      rw [← hy1] at h1
      simp only [List.length_cons, List.length_nil] at h1
      have HS := Lib.hid hS
      have HY1 := Lib.hid hy1
      clear hS hy1
      go_wp2_with fail
      ((with_reducible refine h1.mono ?_))
      rintro e w5 ⟨rfl, hb⟩
      replace hin := hin.call hb
      replace bs := bs.call hb
      replace bq := bq.call hb
      have HS5 := Lib.hid (HS.out.call hb)
      clear hb h1 HS
      rcases y1 with _ | _
      · have h2 := vcont_any (fun x => !decide ((x : Int) = n)) w5 g gc [bn, xn] HS5.out (by simp) 156 #[.pointer (some ⟨X, 0, none⟩)] eg2 (fun v x c W hW => begin2_any v x c X n m (.slice ra rl rc) W (bs.call hW.bel))
        obtain ⟨y2, hy2⟩ : ∃ y, y = [bn, xn].any (fun x => !decide ((x : Int) = n)) := ⟨_, rfl⟩
        rw [← hy2] at h2
        simp only [List.length_cons, List.length_nil] at h2
        have HY2 := Lib.hid hy2
        clear hy2
        go_wp2_with fail
        ((with_reducible refine h2.mono ?_))
        rintro e w6 ⟨rfl, hb⟩
        replace hin := hin.call hb
        replace bs := bs.call hb
        replace bq := bq.call hb
        clear hb h2 HS5
        rcases y2 with _ | _
        · have he : Hid (beginE 0 true [bn, xn] n = 0) := Lib.hid (by unfold beginE; rw [if_neg (by simp), if_neg (by simp), if_neg (by rw [← HY1.out]; simp), if_neg (by rw [← HY2.out]; simp)])
          have x0 := bs.c0; have x1 := bs.c1; have x2 := bs.c2; have xl := bs.lt
          ((have q0 := bq.c0); (have q1 := bq.c1); (have q2 := bq.c2); (have q3 := bq.c3); (have f0 := bq.frozen 0); (have f1 := bq.frozen 1); (have f2 := bq.frozen 2); (have f3 := bq.frozen 3); (have ql := bq.lt); (have K1 := Lib.hid (((((bq.set 0 (.int .i64 n)).set 1 (.int .i64 m)).set 2 (.slice ra rl rc)).set 3 (.slice ba bn bc)))); (have K2 := Lib.hid (((((hin.setCell (p := ⟨(X + 1), 0, none⟩) (by first | (simp; done) | (have := HX.out; simp; omega)) (.int .i64 n)).setCell (p := ⟨(X + 1), 1, none⟩) (by first | (simp; done) | (have := HX.out; simp; omega)) (.int .i64 m)).setCell (p := ⟨(X + 1), 2, none⟩) (by first | (simp; done) | (have := HX.out; simp; omega)) (.slice ra rl rc)).setCell (p := ⟨(X + 1), 3, none⟩) (by first | (simp; done) | (have := HX.out; simp; omega)) (.slice ba bn bc)))); (clear bq hin); (go_wp2_with fail); (have k1 := K1.out); (have k2 := K2.out); (clear q0 q1 q2 q3 f0 f1 f2 f3 ql K1 K2); (generalize (((w6.setCell ⟨(X + 1), 0, none⟩ (.int .i64 n)).setCell ⟨(X + 1), 1, none⟩ (.int .i64 m)).setCell ⟨(X + 1), 2, none⟩ (.slice ra rl rc)).setCell ⟨(X + 1), 3, none⟩ (.slice ba bn bc) = W5 at *); (have e0 : W5.cell? ⟨(X + 1), 0, none⟩ = some (.int .i64 n) := k1.cell 0); (have e1 : W5.cell? ⟨(X + 1), 1, none⟩ = some (.int .i64 m) := k1.cell 1); (have e2 : W5.cell? ⟨(X + 1), 2, none⟩ = some (.slice ra rl rc) := k1.cell 2); (have e3 : W5.cell? ⟨(X + 1), 3, none⟩ = some (.slice ba bn bc) := k1.cell 3); (have hz := k2.bel); (refine bodyPost_ret (v := .tuple #[.agg #[.int .i64 n, .int .i64 m, .slice ra rl rc, .slice ba bn bc], .int .i64 0]) ?_ rfl ⟨by rw [HR.out, he.out, if_pos rfl], by rw [← HX.out]; exact hz⟩); (simp [results, Tryz.results73, go_sem, e0, e1, e2, e3]))
        · have he : Hid (beginE 0 true [bn, xn] n = 1) := Lib.hid (by unfold beginE; rw [if_neg (by simp), if_neg (by simp), if_neg (by rw [← HY1.out]; simp), if_pos (by rw [← HY2.out])])
          clear bs
          ((have q0 := bq.c0); (have q1 := bq.c1); (have q2 := bq.c2); (have q3 := bq.c3); (have f0 := bq.frozen 0); (have f1 := bq.frozen 1); (have f2 := bq.frozen 2); (have f3 := bq.frozen 3); (have ql := bq.lt); (have K1 := Lib.hid (((((bq.set 0 (.int .i64 0)).set 1 (.int .i64 0)).set 2 (.slice none 0 0)).set 3 (.slice none 0 0)))); (have K2 := Lib.hid (((((hin.setCell (p := ⟨(X + 1), 0, none⟩) (by first | (simp; done) | (have := HX.out; simp; omega)) (.int .i64 0)).setCell (p := ⟨(X + 1), 1, none⟩) (by first | (simp; done) | (have := HX.out; simp; omega)) (.int .i64 0)).setCell (p := ⟨(X + 1), 2, none⟩) (by first | (simp; done) | (have := HX.out; simp; omega)) (.slice none 0 0)).setCell (p := ⟨(X + 1), 3, none⟩) (by first | (simp; done) | (have := HX.out; simp; omega)) (.slice none 0 0)))); (clear bq hin); (go_wp2_with fail); (have k1 := K1.out); (have k2 := K2.out); (clear q0 q1 q2 q3 f0 f1 f2 f3 ql K1 K2); (generalize (((w6.setCell ⟨(X + 1), 0, none⟩ (.int .i64 0)).setCell ⟨(X + 1), 1, none⟩ (.int .i64 0)).setCell ⟨(X + 1), 2, none⟩ (.slice none 0 0)).setCell ⟨(X + 1), 3, none⟩ (.slice none 0 0) = W5 at *); (have e0 : W5.cell? ⟨(X + 1), 0, none⟩ = some (.int .i64 0) := k1.cell 0); (have e1 : W5.cell? ⟨(X + 1), 1, none⟩ = some (.int .i64 0) := k1.cell 1); (have e2 : W5.cell? ⟨(X + 1), 2, none⟩ = some (.slice none 0 0) := k1.cell 2); (have e3 : W5.cell? ⟨(X + 1), 3, none⟩ = some (.slice none 0 0) := k1.cell 3); (have hz := k2.bel); (refine bodyPost_ret (v := .tuple #[.agg #[.int .i64 0, .int .i64 0, .slice none 0 0, .slice none 0 0], .int .i64 1]) ?_ rfl ⟨by rw [HR.out, he.out, if_neg (by decide)], by rw [← HX.out]; exact hz⟩); (simp [results, Tryz.results73, go_sem, e0, e1, e2, e3]))
      · have he : Hid (beginE 0 true [bn, xn] n = 3) := Lib.hid (by unfold beginE; rw [if_neg (by simp), if_neg (by simp), if_pos (by rw [← HY1.out])])
        clear bs HS5
        ((have q0 := bq.c0); (have q1 := bq.c1); (have q2 := bq.c2); (have q3 := bq.c3); (have f0 := bq.frozen 0); (have f1 := bq.frozen 1); (have f2 := bq.frozen 2); (have f3 := bq.frozen 3); (have ql := bq.lt); (have K1 := Lib.hid (((((bq.set 0 (.int .i64 0)).set 1 (.int .i64 0)).set 2 (.slice none 0 0)).set 3 (.slice none 0 0)))); (have K2 := Lib.hid (((((hin.setCell (p := ⟨(X + 1), 0, none⟩) (by first | (simp; done) | (have := HX.out; simp; omega)) (.int .i64 0)).setCell (p := ⟨(X + 1), 1, none⟩) (by first | (simp; done) | (have := HX.out; simp; omega)) (.int .i64 0)).setCell (p := ⟨(X + 1), 2, none⟩) (by first | (simp; done) | (have := HX.out; simp; omega)) (.slice none 0 0)).setCell (p := ⟨(X + 1), 3, none⟩) (by first | (simp; done) | (have := HX.out; simp; omega)) (.slice none 0 0)))); (clear bq hin); (go_wp2_with fail); (have k1 := K1.out); (have k2 := K2.out); (clear q0 q1 q2 q3 f0 f1 f2 f3 ql K1 K2); (generalize (((w5.setCell ⟨(X + 1), 0, none⟩ (.int .i64 0)).setCell ⟨(X + 1), 1, none⟩ (.int .i64 0)).setCell ⟨(X + 1), 2, none⟩ (.slice none 0 0)).setCell ⟨(X + 1), 3, none⟩ (.slice none 0 0) = W5 at *); (have e0 : W5.cell? ⟨(X + 1), 0, none⟩ = some (.int .i64 0) := k1.cell 0); (have e1 : W5.cell? ⟨(X + 1), 1, none⟩ = some (.int .i64 0) := k1.cell 1); (have e2 : W5.cell? ⟨(X + 1), 2, none⟩ = some (.slice none 0 0) := k1.cell 2); (have e3 : W5.cell? ⟨(X + 1), 3, none⟩ = some (.slice none 0 0) := k1.cell 3); (have hz := k2.bel); (refine bodyPost_ret (v := .tuple #[.agg #[.int .i64 0, .int .i64 0, .slice none 0 0, .slice none 0 0], .int .i64 3]) ?_ rfl ⟨by rw [HR.out, he.out, if_neg (by decide)], by rw [← HX.out]; exact hz⟩); (simp [results, Tryz.results73, go_sem, e0, e1, e2, e3]))
  · have hne : (chk != 0) = true := by simpa using hc0
    have he : Hid (beginE chk sy [bn, xn] n = chk ∧ chk ≠ 0) := Lib.hid ⟨by unfold beginE; rw [if_pos hc0], hc0⟩
    clear hc0 bs hM hsy
    ((have q0 := bq.c0); (have q1 := bq.c1); (have q2 := bq.c2); (have q3 := bq.c3); (have f0 := bq.frozen 0); (have f1 := bq.frozen 1); (have f2 := bq.frozen 2); (have f3 := bq.frozen 3); (have ql := bq.lt); (have K1 := Lib.hid (((((bq.set 0 (.int .i64 0)).set 1 (.int .i64 0)).set 2 (.slice none 0 0)).set 3 (.slice none 0 0)))); (have K2 := Lib.hid (((((hin.setCell (p := ⟨(X + 1), 0, none⟩) (by first | (simp; done) | (have := HX.out; simp; omega)) (.int .i64 0)).setCell (p := ⟨(X + 1), 1, none⟩) (by first | (simp; done) | (have := HX.out; simp; omega)) (.int .i64 0)).setCell (p := ⟨(X + 1), 2, none⟩) (by first | (simp; done) | (have := HX.out; simp; omega)) (.slice none 0 0)).setCell (p := ⟨(X + 1), 3, none⟩) (by first | (simp; done) | (have := HX.out; simp; omega)) (.slice none 0 0)))); (clear bq hin); (go_wp2_with fail); (have k1 := K1.out); (have k2 := K2.out); (clear q0 q1 q2 q3 f0 f1 f2 f3 ql K1 K2); (generalize (((w2.setCell ⟨(X + 1), 0, none⟩ (.int .i64 0)).setCell ⟨(X + 1), 1, none⟩ (.int .i64 0)).setCell ⟨(X + 1), 2, none⟩ (.slice none 0 0)).setCell ⟨(X + 1), 3, none⟩ (.slice none 0 0) = W5 at *); (have e0 : W5.cell? ⟨(X + 1), 0, none⟩ = some (.int .i64 0) := k1.cell 0); (have e1 : W5.cell? ⟨(X + 1), 1, none⟩ = some (.int .i64 0) := k1.cell 1); (have e2 : W5.cell? ⟨(X + 1), 2, none⟩ = some (.slice none 0 0) := k1.cell 2); (have e3 : W5.cell? ⟨(X + 1), 3, none⟩ = some (.slice none 0 0) := k1.cell 3); (have hz := k2.bel); (refine bodyPost_ret (v := .tuple #[.agg #[.int .i64 0, .int .i64 0, .slice none 0 0, .slice none 0 0], .int .i64 chk]) ?_ rfl ⟨by rw [HR.out, he.out.1, if_neg he.out.2], by rw [← HX.out]; exact hz⟩); (simp [results, Tryz.results73, go_sem, e0, e1, e2, e3]))
set_option maxRecDepth 100000 in
set_option maxHeartbeats 4000000 in
theorem begin_none (w : World) (n m : Int) (ra : Option Addr) (rl rc : Nat) (ba : Option Addr) (bn bc : Nat) (chk : Int) (sy : Bool)
    (hchk : ∀ W, In w.heap.size w W → Calls Tryz.prog 37 #[.agg #[.int .i64 n, .int .i64 m, .slice ra rl rc]] W fun e w' => e = .returned (.int .i64 chk) ∧ Below W.heap.size W w')
    (hsy : ∀ W, In w.heap.size w W → Calls Tryz.prog 38 #[.agg #[.int .i64 n, .int .i64 m, .slice ra rl rc]] W fun e w' => e = .returned (.bool sy) ∧ Below W.heap.size W w') :
    Calls Tryz.prog 73 #[.agg #[.int .i64 n, .int .i64 m, .slice ra rl rc], .slice ba bn bc, .slice none 0 0] w fun e w' => e = .returned (.tuple #[if beginE chk sy [bn] n = 0 then .agg #[.int .i64 n, .int .i64 m, .slice ra rl rc, .slice ba bn bc] else zeroSys, .int .i64 (beginE chk sy [bn] n)]) ∧ Below w.heap.size w w' := by
  obtain ⟨R, hR⟩ : ∃ R, R = (Value.tuple #[if beginE chk sy [bn] n = 0 then .agg #[.int .i64 n, .int .i64 m, .slice ra rl rc, .slice ba bn bc] else zeroSys, .int .i64 (beginE chk sy [bn] n)]) := ⟨_, rfl⟩
  rw [← hR]
  have HR := Lib.hid hR
  clear hR
  obtain ⟨i0, hi0, hi1, hi2, hi3⟩ := info_parts info_vec
  have eg1 : ∀ args w, (callFunc 155 args).run Tryz.prog w = .ok (.enter 155 args) w := enters_of Tryz.func155 (by kernel_rfl) rfl
  have eg2 : ∀ args w, (callFunc 156 args).run Tryz.prog w = .ok (.enter 156 args) w := enters_of Tryz.func156 (by kernel_rfl) rfl
  go_enter Tryz.func73, Tryz.ntmps73
  go_upto_region 1 with fail
  ((obtain ⟨X, hXX⟩ : ∃ z, z = w.heap.size := ⟨_, rfl⟩); (have bV0 := ((Bx.new_at w #[.int .i64 n, .int .i64 m, .slice ra rl rc] 30 (n := X) (by simp [hXX])).alloc (.cells #[.int .i64 0, .int .i64 0, .slice none 0 0, .slice none 0 0] 150))); (have bV1 := (Bx.new_at (w.alloc (.cells #[.int .i64 n, .int .i64 m, .slice ra rl rc] 30)) #[.int .i64 0, .int .i64 0, .slice none 0 0, .slice none 0 0] 150 (n := X + 1) (by simp [hXX]))); (have hV := (((In.self w).alloc (.cells #[.int .i64 n, .int .i64 m, .slice ra rl rc] 30)).alloc (.cells #[.int .i64 0, .int .i64 0, .slice none 0 0, .slice none 0 0] 150))); (rw [← hXX] at hV ⊢); (have HX := Lib.hid hXX); (clear hXX); (generalize (w.alloc (.cells #[.int .i64 n, .int .i64 m, .slice ra rl rc] 30)).alloc (.cells #[.int .i64 0, .int .i64 0, .slice none 0 0, .slice none 0 0] 150) = V at *))
  have hV' := hV
  rw [HX.out] at hV'
  have x0 := bV0.c0; have x1 := bV0.c1; have x2 := bV0.c2; have xl := bV0.lt
  go_wp2_with fail
  ((with_reducible refine (hchk _ hV').mono ?_))
  rintro e w2 ⟨rfl, hb⟩
  have hin := hV.call hb
  have bs := bV0.call hb
  have bq := bV1.call hb
  clear hb hV hV' bV0 bV1 hchk x0 x1 x2 xl
  by_cases hc0 : chk = 0
  · subst hc0
    have hinw := hin
    rw [HX.out] at hinw
    have x0 := bs.c0; have x1 := bs.c1; have x2 := bs.c2; have xl := bs.lt
    go_wp2_with fail
    ((with_reducible refine (hsy _ hinw).mono ?_))
    rintro e w3 ⟨rfl, hb⟩
    replace hin := hin.call hb
    replace bs := bs.call hb
    replace bq := bq.call hb
    clear hb hinw hsy x0 x1 x2 xl
    rcases sy with _ | _
    · have he : Hid (beginE 0 false [bn] n = 1) := Lib.hid (by unfold beginE; rw [if_neg (by simp), if_pos rfl])
      clear bs
      ((have q0 := bq.c0); (have q1 := bq.c1); (have q2 := bq.c2); (have q3 := bq.c3); (have f0 := bq.frozen 0); (have f1 := bq.frozen 1); (have f2 := bq.frozen 2); (have f3 := bq.frozen 3); (have ql := bq.lt); (have K1 := Lib.hid (((((bq.set 0 (.int .i64 0)).set 1 (.int .i64 0)).set 2 (.slice none 0 0)).set 3 (.slice none 0 0)))); (have K2 := Lib.hid (((((hin.setCell (p := ⟨(X + 1), 0, none⟩) (by first | (simp; done) | (have := HX.out; simp; omega)) (.int .i64 0)).setCell (p := ⟨(X + 1), 1, none⟩) (by first | (simp; done) | (have := HX.out; simp; omega)) (.int .i64 0)).setCell (p := ⟨(X + 1), 2, none⟩) (by first | (simp; done) | (have := HX.out; simp; omega)) (.slice none 0 0)).setCell (p := ⟨(X + 1), 3, none⟩) (by first | (simp; done) | (have := HX.out; simp; omega)) (.slice none 0 0)))); (clear bq hin); (go_wp2_with fail); (have k1 := K1.out); (have k2 := K2.out); (clear q0 q1 q2 q3 f0 f1 f2 f3 ql K1 K2); (generalize (((w3.setCell ⟨(X + 1), 0, none⟩ (.int .i64 0)).setCell ⟨(X + 1), 1, none⟩ (.int .i64 0)).setCell ⟨(X + 1), 2, none⟩ (.slice none 0 0)).setCell ⟨(X + 1), 3, none⟩ (.slice none 0 0) = W5 at *); (have e0 : W5.cell? ⟨(X + 1), 0, none⟩ = some (.int .i64 0) := k1.cell 0); (have e1 : W5.cell? ⟨(X + 1), 1, none⟩ = some (.int .i64 0) := k1.cell 1); (have e2 : W5.cell? ⟨(X + 1), 2, none⟩ = some (.slice none 0 0) := k1.cell 2); (have e3 : W5.cell? ⟨(X + 1), 3, none⟩ = some (.slice none 0 0) := k1.cell 3); (have hz := k2.bel); (refine bodyPost_ret (v := .tuple #[.agg #[.int .i64 0, .int .i64 0, .slice none 0 0, .slice none 0 0], .int .i64 1]) ?_ rfl ⟨by rw [HR.out, he.out, if_neg (by decide)], by rw [← HX.out]; exact hz⟩); (simp [results, Tryz.results73, go_sem, e0, e1, e2, e3]))
    · have hap : ∀ (W : World) (E : Addr) (ty : TypeId), (Builtin.append_ #[99, 99] ty #[.slice (some E) 1 1, .slice none 0 0]).run Tryz.prog W = .ok (.slice (some E) 1 1) W := fun W E ty => by
        have hf := run_firstCells_none (P := Tryz.prog) (w := W) 1 0 0 0
        simp [Builtin.append_, run_underlying Tryz.underlying99, Go.sizeOf, typeInfo, hi0, hi2, Builtin.lenOf, hf, storeCells]
      have hS0 : SlsAt (w3.alloc (.cells #[.slice ba bn bc] 33)) (some ⟨w3.heap.size, 0, none⟩) [bn] := fun i hi => by
        obtain rfl : i = 0 := by simp at hi; omega
        exact ⟨w3.heap.size, 0, ba, bc, rfl, by rw [World.size_alloc]; omega, (Bx.new_at w3 #[.slice ba bn bc] 33 rfl).cell 0⟩
      have HS0 := Lib.hid hS0
      have HW3 := Lib.hid (show In X w (w3.alloc (.cells #[.slice ba bn bc] 33)) ∧ Bx (w3.alloc (.cells #[.slice ba bn bc] 33)) X 30 [.int .i64 n, .int .i64 m, .slice ra rl rc] ∧ Bx (w3.alloc (.cells #[.slice ba bn bc] 33)) (X + 1) 150 [.int .i64 0, .int .i64 0, .slice none 0 0, .slice none 0 0] from ⟨hin.alloc _, bs.alloc _, bq.alloc _⟩)
      clear hS0
      go_wp2_with (at_builtin; refine wpList_plain rfl fun K hK' => ?_; unfold Oper.wp; simp [execOp, resolve, invoke, builtin, Act.eval, hap, Result.andThen]; refine hK' _ _ ?_)
      clear hap
      have hS := HS0.out
      obtain ⟨hin, bs, bq⟩ := HW3.out
      clear HS0 HW3
      generalize w3.alloc (.cells #[.slice ba bn bc] 33) = w4 at *
      have h1 := vcont_any (fun x => decide (2048 < x)) w4 (some ⟨w3.heap.size, 0, none⟩) 1 [bn] hS (by simp) 155 #[] eg1 (fun v x c W _ => begin1_any v x c W)
      obtain ⟨y1, hy1⟩ : ∃ y, y = [bn].any (fun x => decide (2048 < x)) := ⟨_, rfl⟩
      rw [← hy1] at h1
      simp only [List.length_cons, List.length_nil] at h1
      have HS := Lib.hid hS
      have HY1 := Lib.hid hy1
      clear hS hy1
      go_wp2_with fail
      ((with_reducible refine h1.mono ?_))
      rintro e w5 ⟨rfl, hb⟩
      replace hin := hin.call hb
      replace bs := bs.call hb
      replace bq := bq.call hb
      have HS5 := Lib.hid (HS.out.call hb)
      clear hb h1 HS
      rcases y1 with _ | _
      · have h2 := vcont_any (fun x => !decide ((x : Int) = n)) w5 (some ⟨w3.heap.size, 0, none⟩) 1 [bn] HS5.out (by simp) 156 #[.pointer (some ⟨X, 0, none⟩)] eg2 (fun v x c W hW => begin2_any v x c X n m (.slice ra rl rc) W (bs.call hW.bel))
        obtain ⟨y2, hy2⟩ : ∃ y, y = [bn].any (fun x => !decide ((x : Int) = n)) := ⟨_, rfl⟩
        rw [← hy2] at h2
        simp only [List.length_cons, List.length_nil] at h2
        have HY2 := Lib.hid hy2
        clear hy2
        go_wp2_with fail
        ((with_reducible refine h2.mono ?_))
        rintro e w6 ⟨rfl, hb⟩
        replace hin := hin.call hb
        replace bs := bs.call hb
        replace bq := bq.call hb
        clear hb h2 HS5
        rcases y2 with _ | _
        · have he : Hid (beginE 0 true [bn] n = 0) := Lib.hid (by unfold beginE; rw [if_neg (by simp), if_neg (by simp), if_neg (by rw [← HY1.out]; simp), if_neg (by rw [← HY2.out]; simp)])
          have x0 := bs.c0; have x1 := bs.c1; have x2 := bs.c2; have xl := bs.lt
          ((have q0 := bq.c0); (have q1 := bq.c1); (have q2 := bq.c2); (have q3 := bq.c3); (have f0 := bq.frozen 0); (have f1 := bq.frozen 1); (have f2 := bq.frozen 2); (have f3 := bq.frozen 3); (have ql := bq.lt); (have K1 := Lib.hid (((((bq.set 0 (.int .i64 n)).set 1 (.int .i64 m)).set 2 (.slice ra rl rc)).set 3 (.slice ba bn bc)))); (have K2 := Lib.hid (((((hin.setCell (p := ⟨(X + 1), 0, none⟩) (by first | (simp; done) | (have := HX.out; simp; omega)) (.int .i64 n)).setCell (p := ⟨(X + 1), 1, none⟩) (by first | (simp; done) | (have := HX.out; simp; omega)) (.int .i64 m)).setCell (p := ⟨(X + 1), 2, none⟩) (by first | (simp; done) | (have := HX.out; simp; omega)) (.slice ra rl rc)).setCell (p := ⟨(X + 1), 3, none⟩) (by first | (simp; done) | (have := HX.out; simp; omega)) (.slice ba bn bc)))); (clear bq hin); (go_wp2_with fail); (have k1 := K1.out); (have k2 := K2.out); (clear q0 q1 q2 q3 f0 f1 f2 f3 ql K1 K2); (generalize (((w6.setCell ⟨(X + 1), 0, none⟩ (.int .i64 n)).setCell ⟨(X + 1), 1, none⟩ (.int .i64 m)).setCell ⟨(X + 1), 2, none⟩ (.slice ra rl rc)).setCell ⟨(X + 1), 3, none⟩ (.slice ba bn bc) = W5 at *); (have e0 : W5.cell? ⟨(X + 1), 0, none⟩ = some (.int .i64 n) := k1.cell 0); (have e1 : W5.cell? ⟨(X + 1), 1, none⟩ = some (.int .i64 m) := k1.cell 1); (have e2 : W5.cell? ⟨(X + 1), 2, none⟩ = some (.slice ra rl rc) := k1.cell 2); (have e3 : W5.cell? ⟨(X + 1), 3, none⟩ = some (.slice ba bn bc) := k1.cell 3); (have hz := k2.bel); (refine bodyPost_ret (v := .tuple #[.agg #[.int .i64 n, .int .i64 m, .slice ra rl rc, .slice ba bn bc], .int .i64 0]) ?_ rfl ⟨by rw [HR.out, he.out, if_pos rfl], by rw [← HX.out]; exact hz⟩); (simp [results, Tryz.results73, go_sem, e0, e1, e2, e3]))
        · have he : Hid (beginE 0 true [bn] n = 1) := Lib.hid (by unfold beginE; rw [if_neg (by simp), if_neg (by simp), if_neg (by rw [← HY1.out]; simp), if_pos (by rw [← HY2.out])])
          clear bs
          ((have q0 := bq.c0); (have q1 := bq.c1); (have q2 := bq.c2); (have q3 := bq.c3); (have f0 := bq.frozen 0); (have f1 := bq.frozen 1); (have f2 := bq.frozen 2); (have f3 := bq.frozen 3); (have ql := bq.lt); (have K1 := Lib.hid (((((bq.set 0 (.int .i64 0)).set 1 (.int .i64 0)).set 2 (.slice none 0 0)).set 3 (.slice none 0 0)))); (have K2 := Lib.hid (((((hin.setCell (p := ⟨(X + 1), 0, none⟩) (by first | (simp; done) | (have := HX.out; simp; omega)) (.int .i64 0)).setCell (p := ⟨(X + 1), 1, none⟩) (by first | (simp; done) | (have := HX.out; simp; omega)) (.int .i64 0)).setCell (p := ⟨(X + 1), 2, none⟩) (by first | (simp; done) | (have := HX.out; simp; omega)) (.slice none 0 0)).setCell (p := ⟨(X + 1), 3, none⟩) (by first | (simp; done) | (have := HX.out; simp; omega)) (.slice none 0 0)))); (clear bq hin); (go_wp2_with fail); (have k1 := K1.out); (have k2 := K2.out); (clear q0 q1 q2 q3 f0 f1 f2 f3 ql K1 K2); (generalize (((w6.setCell ⟨(X + 1), 0, none⟩ (.int .i64 0)).setCell ⟨(X + 1), 1, none⟩ (.int .i64 0)).setCell ⟨(X + 1), 2, none⟩ (.slice none 0 0)).setCell ⟨(X + 1), 3, none⟩ (.slice none 0 0) = W5 at *); (have e0 : W5.cell? ⟨(X + 1), 0, none⟩ = some (.int .i64 0) := k1.cell 0); (have e1 : W5.cell? ⟨(X + 1), 1, none⟩ = some (.int .i64 0) := k1.cell 1); (have e2 : W5.cell? ⟨(X + 1), 2, none⟩ = some (.slice none 0 0) := k1.cell 2); (have e3 : W5.cell? ⟨(X + 1), 3, none⟩ = some (.slice none 0 0) := k1.cell 3); (have hz := k2.bel); (refine bodyPost_ret (v := .tuple #[.agg #[.int .i64 0, .int .i64 0, .slice none 0 0, .slice none 0 0], .int .i64 1]) ?_ rfl ⟨by rw [HR.out, he.out, if_neg (by decide)], by rw [← HX.out]; exact hz⟩); (simp [results, Tryz.results73, go_sem, e0, e1, e2, e3]))
      · have he : Hid (beginE 0 true [bn] n = 3) := Lib.hid (by unfold beginE; rw [if_neg (by simp), if_neg (by simp), if_pos (by rw [← HY1.out])])
        clear bs HS5
        ((have q0 := bq.c0); (have q1 := bq.c1); (have q2 := bq.c2); (have q3 := bq.c3); (have f0 := bq.frozen 0); (have f1 := bq.frozen 1); (have f2 := bq.frozen 2); (have f3 := bq.frozen 3); (have ql := bq.lt); (have K1 := Lib.hid (((((bq.set 0 (.int .i64 0)).set 1 (.int .i64 0)).set 2 (.slice none 0 0)).set 3 (.slice none 0 0)))); (have K2 := Lib.hid (((((hin.setCell (p := ⟨(X + 1), 0, none⟩) (by first | (simp; done) | (have := HX.out; simp; omega)) (.int .i64 0)).setCell (p := ⟨(X + 1), 1, none⟩) (by first | (simp; done) | (have := HX.out; simp; omega)) (.int .i64 0)).setCell (p := ⟨(X + 1), 2, none⟩) (by first | (simp; done) | (have := HX.out; simp; omega)) (.slice none 0 0)).setCell (p := ⟨(X + 1), 3, none⟩) (by first | (simp; done) | (have := HX.out; simp; omega)) (.slice none 0 0)))); (clear bq hin); (go_wp2_with fail); (have k1 := K1.out); (have k2 := K2.out); (clear q0 q1 q2 q3 f0 f1 f2 f3 ql K1 K2); (generalize (((w5.setCell ⟨(X + 1), 0, none⟩ (.int .i64 0)).setCell ⟨(X + 1), 1, none⟩ (.int .i64 0)).setCell ⟨(X + 1), 2, none⟩ (.slice none 0 0)).setCell ⟨(X + 1), 3, none⟩ (.slice none 0 0) = W5 at *); (have e0 : W5.cell? ⟨(X + 1), 0, none⟩ = some (.int .i64 0) := k1.cell 0); (have e1 : W5.cell? ⟨(X + 1), 1, none⟩ = some (.int .i64 0) := k1.cell 1); (have e2 : W5.cell? ⟨(X + 1), 2, none⟩ = some (.slice none 0 0) := k1.cell 2); (have e3 : W5.cell? ⟨(X + 1), 3, none⟩ = some (.slice none 0 0) := k1.cell 3); (have hz := k2.bel); (refine bodyPost_ret (v := .tuple #[.agg #[.int .i64 0, .int .i64 0, .slice none 0 0, .slice none 0 0], .int .i64 3]) ?_ rfl ⟨by rw [HR.out, he.out, if_neg (by decide)], by rw [← HX.out]; exact hz⟩); (simp [results, Tryz.results73, go_sem, e0, e1, e2, e3]))
  · have hne : (chk != 0) = true := by simpa using hc0
    have he : Hid (beginE chk sy [bn] n = chk ∧ chk ≠ 0) := Lib.hid ⟨by unfold beginE; rw [if_pos hc0], hc0⟩
    clear hc0 bs hsy
    ((have q0 := bq.c0); (have q1 := bq.c1); (have q2 := bq.c2); (have q3 := bq.c3); (have f0 := bq.frozen 0); (have f1 := bq.frozen 1); (have f2 := bq.frozen 2); (have f3 := bq.frozen 3); (have ql := bq.lt); (have K1 := Lib.hid (((((bq.set 0 (.int .i64 0)).set 1 (.int .i64 0)).set 2 (.slice none 0 0)).set 3 (.slice none 0 0)))); (have K2 := Lib.hid (((((hin.setCell (p := ⟨(X + 1), 0, none⟩) (by first | (simp; done) | (have := HX.out; simp; omega)) (.int .i64 0)).setCell (p := ⟨(X + 1), 1, none⟩) (by first | (simp; done) | (have := HX.out; simp; omega)) (.int .i64 0)).setCell (p := ⟨(X + 1), 2, none⟩) (by first | (simp; done) | (have := HX.out; simp; omega)) (.slice none 0 0)).setCell (p := ⟨(X + 1), 3, none⟩) (by first | (simp; done) | (have := HX.out; simp; omega)) (.slice none 0 0)))); (clear bq hin); (go_wp2_with fail); (have k1 := K1.out); (have k2 := K2.out); (clear q0 q1 q2 q3 f0 f1 f2 f3 ql K1 K2); (generalize (((w2.setCell ⟨(X + 1), 0, none⟩ (.int .i64 0)).setCell ⟨(X + 1), 1, none⟩ (.int .i64 0)).setCell ⟨(X + 1), 2, none⟩ (.slice none 0 0)).setCell ⟨(X + 1), 3, none⟩ (.slice none 0 0) = W5 at *); (have e0 : W5.cell? ⟨(X + 1), 0, none⟩ = some (.int .i64 0) := k1.cell 0); (have e1 : W5.cell? ⟨(X + 1), 1, none⟩ = some (.int .i64 0) := k1.cell 1); (have e2 : W5.cell? ⟨(X + 1), 2, none⟩ = some (.slice none 0 0) := k1.cell 2); (have e3 : W5.cell? ⟨(X + 1), 3, none⟩ = some (.slice none 0 0) := k1.cell 3); (have hz := k2.bel); (refine bodyPost_ret (v := .tuple #[.agg #[.int .i64 0, .int .i64 0, .slice none 0 0, .slice none 0 0], .int .i64 chk]) ?_ rfl ⟨by rw [HR.out, he.out.1, if_neg he.out.2], by rw [← HX.out]; exact hz⟩); (simp [results, Tryz.results73, go_sem, e0, e1, e2, e3]))
end Gus
end
