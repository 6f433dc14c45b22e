/- Proved here: parts of the proof: Rde Rdf Rdg. Conditions: those that each theorem states. -/
import Derived.Test.YtakblfhmllgepaaGreatDoorRdbQ
section
/- The reference's numbers: Sub. -/
namespace Gus
open Go Go.RowKit Go.Proofs
theorem ratB (w : World) (a : Option Addr) (cap i : Nat) (l : List Nat) (hA : DsAt w a l) :
    Calls Tryz.prog 91 #[.slice a l.length cap, .int .i64 (i : Nat)] w fun e w' => e = .returned (.int .i64 (l.getD i 0 : Nat)) ∧ Below w.heap.size w w' :=
  (rat_any w a cap i l hA).mono fun _ _ ⟨h, e⟩ => ⟨h, e ▸ .refl _ _⟩
theorem sub_round {zs xs ys : List Nat} {i c z c' : Nat} (hz : zs.length = i) (hv : D.val zs + D.val (ys.take i) = D.val (xs.take i) + 10000 ^ i * c) (h : z + ys.getD i 0 + c = xs.getD i 0 + 10000 * c') : D.val (zs ++ [z]) + D.val (ys.take (i + 1)) = D.val (xs.take (i + 1)) + 10000 ^ (i + 1) * c' := by
  rw [D.val_snoc, D.val_take_succ, D.val_take_succ, hz, Nat.pow_succ]
  generalize 10000 ^ i = P at *
  have e : P * z + P * ys.getD i 0 + P * c = P * xs.getD i 0 + P * 10000 * c' := by
    rw [← Nat.mul_add, ← Nat.mul_add, h, Nat.mul_add, Nat.mul_assoc]
  omega
set_option maxRecDepth 100000 in
set_option maxHeartbeats 2000000 in
theorem rsub_any (w : World) (v1 v2 : Value) (m n : Nat) (hmn : n ≤ m) (h1 : NV w v1 m) (h2 : NV w v2 n) (hs1 : (D.wd m).length ≤ 1099511627776) :
    Calls Tryz.prog 87 #[v1, v2] w fun e w' => RNat w (m - n) e w' := by
  obtain ⟨i0, hi0, hi1, hi2, hi3⟩ := info_parts info_int8
  obtain ⟨a1, c1, rfl, _, _, hx⟩ := h1
  obtain ⟨a2, c2, rfl, _, _, hy⟩ := h2
  have hlen := D.wd_mono hmn
  obtain ⟨xs, hxs⟩ : ∃ xs, xs = D.wd m := ⟨_, rfl⟩
  obtain ⟨ys, hys⟩ : ∃ ys, ys = D.wd n := ⟨_, rfl⟩
  rw [← hxs] at hx hs1 hlen ⊢
  rw [← hys] at hy hlen ⊢
  have hdx : ∀ i, xs.getD i 0 < 10000 := fun i => by rw [hxs]; exact (D.wd_digs m).getD i
  have hdy : ∀ i, ys.getD i 0 < 10000 := fun i => by rw [hys]; exact (D.wd_digs n).getD i
  have HMX : Hid (m = D.val xs) := Lib.hid (by rw [hxs, D.wd_val])
  have HNY : Hid (n = D.val ys) := Lib.hid (by rw [hys, D.wd_val])
  obtain ⟨k1, hk1⟩ : ∃ k, k = xs.length := ⟨_, rfl⟩
  obtain ⟨k2, hk2⟩ : ∃ k, k = ys.length := ⟨_, rfl⟩
  have g2 := fun W (h : Below w.heap.size w W) i => ratB W a2 c2 i ys (DsAt.call hy h)
  rw [← hk1] at hs1 hlen ⊢
  rw [← hk2] at g2 hlen ⊢
  have HX := Lib.hid hx
  have HG2 := Lib.hid g2
  have HDX := Lib.hid hdx
  have HDY := Lib.hid hdy
  have HK1 := Lib.hid hk1
  have HK2 := Lib.hid hk2
  have HMN := Lib.hid hmn
  clear hxs hys hx hy hdx hdy g2 hk1 hk2 hmn
  go_enter Tryz.func87, Tryz.ntmps87
  go_wp2_with fail
  go_loopw [5, 6, 7] (fun v5 v6 v7 wr => ∃ (i c : Nat) (v : Value) (zs : List Nat), v5 = v ∧ v6 = .int .i64 (c : Nat) ∧ v7 = .int .i64 (i : Nat) ∧ c ≤ 1 ∧ i ≤ k1 ∧ Hid (zs.length = i) ∧ Hid (D.Digs zs) ∧ Hid (D.val zs + D.val (ys.take i) = D.val (xs.take i) + 10000 ^ i * c) ∧ In w.heap.size w wr ∧ wr.ownsRow w.heap.size 3 1 v i (dcl zs)) (fun _ _ v7 _ => k1 - (RowKit.intOf v7).toNat)
  case atStart => exact ⟨0, 0, _, [], rfl, rfl, rfl, by omega, by omega, Lib.hid rfl, Lib.hid .nil, Lib.hid (by simp [D.val]), In.self _, World.ownsRow_nil _ _ _ _⟩
  case round =>
    obtain ⟨i, c, v5, zs, hv, rfl, rfl, hc, hi, HZL, HZD, HZV, hin, hown⟩ := hrel
    obtain rfl := hv.symm
    have HOWN := Lib.hid hown
    have HIN := Lib.hid hin
    clear hown hin
    by_cases hik : i < k1
    · have hikI : (i : Int) < k1 := by omega
      have hi0' : (0 : Int) ≤ i := by omega
      obtain ⟨b1, o1, rfl, hb1, hcx⟩ := HX.out.at (i := i) (by rw [← HK1.out]; exact hik)
      rw [← HIN.out.cell b1 _ hb1] at hcx
      have hbw : b1 < wr.heap.size := by have := HIN.out.siz; omega
      have hdx := HDX.out i
      have hdy := HDY.out i
      obtain ⟨x, hx⟩ : ∃ x, x = xs.getD i 0 := ⟨_, rfl⟩
      obtain ⟨y, hy⟩ : ∃ y, y = ys.getD i 0 := ⟨_, rfl⟩
      have cy := fun W (h : In wr.heap.size wr W) => HG2.out W (HIN.out.bel.trans (h.bel.mono HIN.out.siz)) i
      rw [← hx] at hcx hdx
      rw [← hy] at hdy
      simp only [← hy] at cy
      have HXX := Lib.hid hx
      have HYY := Lib.hid hy
      have hxI : (x : Int) < 10000 := by omega
      have hyI : (y : Int) < 10000 := by omega
      have hcI : (c : Int) ≤ 1 := by omega
      have hw1 : IntKind.i64.wrap ((x : Int) - y) = (x : Int) - y := IntWalk.i64_in _ (by omega)
      have hw2 : IntKind.i64.wrap ((x : Int) - y - c) = (x : Int) - y - c := IntWalk.i64_in _ (by omega)
      clear hx hy
      go_upto_region 6 with fail
      have h := In.self wr
      have hcc := h.cell
      have hf := h.frozen
      refine wp_region_flow 10 (by kernel_rfl) (by kernel_rfl) (fun _ _ d _ _ h => by cases d <;> exact h) ?_; simp only [List.take_succ_cons, List.take_zero, List.drop_succ_cons, List.drop_zero]; simp only [putAll, Act.put, List.setIfInBounds_toArray, List.set]; (try simp only [Nat.reduceAdd]); (try simp only [Nat.zero_add]); (repeat (first | ((with_reducible refine flow_float (v := ?_) ?_ ?_ ?_); rotate_left 1; (focus (with_reducible rfl)); (focus (intro u w1 hw hd w2; (try simp only [depH] at hd); (try simp only [ext] at hd); (try simp only [extU] at hd); (try simp only [Nat.reduceAdd] at hd); (try simp only [Nat.reduceEqDiff] at hd); (try simp only [reduceIte] at hd); (try simp only [and_true] at hd); (try simp only [true_and] at hd); go_simp; exact rfl))) | ((first | ((with_reducible refine flow_pure0 (v := ?_) ?_ ?_ ?_ ?_); rotate_left 1; (focus (with_reducible rfl)); (focus rfl)) | ((with_reducible refine flow_pureg (v := ?_) (j := ?_) (b := ?_) ?_ ?_ ?_ ?_); rotate_left 3; (focus (with_reducible rfl)); (focus (intro u w1 hw hd; (try simp only [depH] at hd); (try simp only [ext] at hd); (try simp only [extU] at hd); (try simp only [Nat.reduceAdd] at hd); (try simp only [Nat.reduceEqDiff] at hd); (try simp only [reduceIte] at hd); (try simp only [and_true] at hd); (try simp only [true_and] at hd); simp [yielded, hd]; done)))); (focus (intro u w1 hw hd; (try simp only [depH] at hd); (try simp only [ext] at hd); (try simp only [extU] at hd); (try simp only [Nat.reduceAdd] at hd); (try simp only [Nat.reduceEqDiff] at hd); (try simp only [reduceIte] at hd); (try simp only [and_true] at hd); (try simp only [true_and] at hd); have hc' := hw.cell; first | (go_simp; exact rfl) | (go_simp; go_at_call 91; ((with_reducible refine (cy _ hw.ins).mono ?_)); rintro e w'' ⟨rfl, hb⟩; refine ⟨?_, hb⟩; exact rfl)))) | ((with_reducible refine flow_skipg (j := ?_) (b := ?_) ?_ ?_ ?_); rotate_left 2; (focus (with_reducible rfl)); (focus (intro u w1 hw hd; (try simp only [depH] at hd); (try simp only [ext] at hd); (try simp only [extU] at hd); (try simp only [Nat.reduceAdd] at hd); (try simp only [Nat.reduceEqDiff] at hd); (try simp only [reduceIte] at hd); (try simp only [and_true] at hd); (try simp only [true_and] at hd); simp [yielded, hd]; done))) | ((with_reducible refine flow_alloc (t := ?_) (zs := ?_) ?_ ?_ ?_ ?_); rotate_left 2; (focus (with_reducible rfl)); (focus rfl); (focus (intro u w1; go_simp; exact rfl)))))
      (try clear hc hf h); intro u w' h ha hdi; replace h := h.ins; (try simp only [World.size_alloc] at h); (try dsimp only at ha); (repeat rw [World.size_alloc] at ha); (try simp only [allH] at ha); (try simp only [ext] at ha); (try simp only [extU] at ha); (try simp only [Nat.reduceAdd] at ha); (try simp only [Nat.reduceEqDiff] at ha); (try simp only [reduceIte] at ha); (try simp only [and_true] at ha); (try simp only [true_and] at ha); have hc := h.cell; have hf := h.frozen
      (try obtain ha := ha); (try dsimp only);  simp only [ha]; clear ha hdi 
      have HOW2 := Lib.hid (ownsRow_below HOWN.out h.bel)
      have HI2 := Lib.hid (HIN.out.call h.bel)
      have hsz2 := HI2.out.siz
      clear h hc hf hcc hcx hb1 hbw cy hw1 hw2 HOWN HIN
      by_cases hlt : x < y + c
      · have hsI : (x : Int) - y - c < 0 := by omega
        obtain ⟨z, hz⟩ : ∃ z, z = x + 10000 - y - c := ⟨_, rfl⟩
        have HV2 := Lib.hid (sub_round (z := z) (c' := 1) HZL.out HZV.out (by rw [← HXX.out, ← HYY.out]; omega))
        have HD2 : Hid (D.Digs (zs ++ [z])) := Lib.hid (HZD.out.append (.cons (by omega) .nil))
        ((go_wp2_with (at_builtin; go_loud (refine wpList_append_own _ rfl (.tmp 29) (.tmp 31) 41 rfl w.heap.size 3 i0 (.int .i64 0) 1 8 Tryz.underlying41 hi0 hi1 hi2 hi3 rfl (by decide) v5 i (dcl zs) rfl (HOW2.out.alloc _) ⟨w'.heap.size, 0, none⟩ 1 1 [.int .i64 ((x : Int) - y - c + 10000)] rfl rfl ?c1 ?c2 ?c3 ?c4 ?c5 ?_))); (try (case c1 => (intro j u hj; rw [Addr.add_lit, Nat.zero_add, (Bx.new_at w' #[.int .i64 ((x : Int) - y - c + 10000)] 3 rfl).cell j]; exact hj))); (try (case c2 => (first | rfl | (intro u hu; simp only [List.mem_cons, List.not_mem_nil, or_false] at hu; subst hu; rfl)))); (try (case c3 => (simp only [maxLen]; omega))); (try (case c4 => omega)); (try (case c5 => (first | omega | (rw [World.size_alloc]; omega)))); (intro v' w4 hown4 hgr _); (have hin4 : In w.heap.size w w4 := by (have h5 := HI2.out.alloc (.cells #[.int .i64 ((x : Int) - y - c + 10000)] 3); exact ⟨h5.bel.grown hgr h5.siz (fun k h => (World.ownsRow.lt HOW2.out k h).1), Nat.le_trans h5.siz hgr.size⟩)); (have HR4 : Hid (w4.ownsRow w.heap.size 3 1 v' (i + 1) (dcl (zs ++ [z]))) := Lib.hid (by ((have e1 : (((z : Nat)) : Int) = (x : Int) - y - c + 10000 := (by first | rfl | omega)); (have e : dcl (zs ++ [z]) = dcl zs ++ [.int .i64 ((x : Int) - y - c + 10000)] := (by rw [← e1]; simp [dcl])); rw [e]; exact hown4))); (have HIN4 := Lib.hid hin4); (obtain ⟨g9, c9, rfl⟩ : ∃ g9 c9, v' = .slice (some ⟨g9, 0, none⟩) (i + 1) c9 := by exact ownsRow_cons hown4); (clear hown4 hgr hin4 HOW2 HI2))
        have HZ4 : Hid ((zs ++ [z]).length = i + 1) := Lib.hid (by rw [List.length_append, HZL.out]; rfl)
        clear hsz2
        go_wp2_with fail
        exact ⟨⟨i + 1, 1, _, _, rfl, by go_num, by go_num, by omega, by omega, HZ4, HD2, HV2, HIN4.out, HR4.out⟩, by simp [RowKit.intOf]; omega⟩
      · have hsI : ¬ (x : Int) - y - c < 0 := by omega
        obtain ⟨z, hz⟩ : ∃ z, z = x - y - c := ⟨_, rfl⟩
        have HV2 := Lib.hid (sub_round (z := z) (c' := 0) HZL.out HZV.out (by rw [← HXX.out, ← HYY.out]; omega))
        have HD2 : Hid (D.Digs (zs ++ [z])) := Lib.hid (HZD.out.append (.cons (by omega) .nil))
        ((go_wp2_with (at_builtin; go_loud (refine wpList_append_own _ rfl (.tmp 29) (.tmp 31) 41 rfl w.heap.size 3 i0 (.int .i64 0) 1 8 Tryz.underlying41 hi0 hi1 hi2 hi3 rfl (by decide) v5 i (dcl zs) rfl (HOW2.out.alloc _) ⟨w'.heap.size, 0, none⟩ 1 1 [.int .i64 ((x : Int) - y - c)] rfl rfl ?d1 ?d2 ?d3 ?d4 ?d5 ?_))); (try (case d1 => (intro j u hj; rw [Addr.add_lit, Nat.zero_add, (Bx.new_at w' #[.int .i64 ((x : Int) - y - c)] 3 rfl).cell j]; exact hj))); (try (case d2 => (first | rfl | (intro u hu; simp only [List.mem_cons, List.not_mem_nil, or_false] at hu; subst hu; rfl)))); (try (case d3 => (simp only [maxLen]; omega))); (try (case d4 => omega)); (try (case d5 => (first | omega | (rw [World.size_alloc]; omega)))); (intro v' w4 hown4 hgr _); (have hin4 : In w.heap.size w w4 := by (have h5 := HI2.out.alloc (.cells #[.int .i64 ((x : Int) - y - c)] 3); exact ⟨h5.bel.grown hgr h5.siz (fun k h => (World.ownsRow.lt HOW2.out k h).1), Nat.le_trans h5.siz hgr.size⟩)); (have HR4 : Hid (w4.ownsRow w.heap.size 3 1 v' (i + 1) (dcl (zs ++ [z]))) := Lib.hid (by ((have e1 : (((z : Nat)) : Int) = (x : Int) - y - c := (by first | rfl | omega)); (have e : dcl (zs ++ [z]) = dcl zs ++ [.int .i64 ((x : Int) - y - c)] := (by rw [← e1]; simp [dcl])); rw [e]; exact hown4))); (have HIN4 := Lib.hid hin4); (obtain ⟨g9, c9, rfl⟩ : ∃ g9 c9, v' = .slice (some ⟨g9, 0, none⟩) (i + 1) c9 := by exact ownsRow_cons hown4); (clear hown4 hgr hin4 HOW2 HI2))
        have HZ4 : Hid ((zs ++ [z]).length = i + 1) := Lib.hid (by rw [List.length_append, HZL.out]; rfl)
        clear hsz2
        go_wp2_with fail
        exact ⟨⟨i + 1, 0, _, _, rfl, by go_num, by go_num, by omega, by omega, HZ4, HD2, HV2, HIN4.out, HR4.out⟩, by simp [RowKit.intOf]; omega⟩
    · obtain rfl : i = k1 := by omega
      have hikI : ¬ (i : Int) < i := by omega
      obtain ⟨a, cap, hv5, hcap, hcm, hds⟩ := DsAt.own (v := v5) (xs := zs) (by rw [HZL.out]; exact HOWN.out)
      rw [HZL.out] at hv5
      subst hv5
      have ht := rtrim_any wr a cap zs hds HZD.out hcap hcm
      rw [HZL.out] at ht
      have HDS := Lib.hid hds
      have HCC : Hid (zs.length ≤ cap) := Lib.hid hcap
      have HE : Hid (D.val zs = m - n) := Lib.hid (by
        have h := HZV.out
        rw [digs_take_ge (by rw [← HK2.out]; omega), digs_take_ge (by rw [← HK1.out]; exact Nat.le_refl _), ← HMX.out, ← HNY.out] at h
        have h2 := D.val_lt HZD.out
        rw [HZL.out] at h2
        exact D.sub_end h2 HMN.out h)
      clear hds hcap
      go_wp2_with fail
      ((with_reducible refine ht.mono ?_))
      rintro e w' ⟨hT, rfl⟩
      obtain ⟨v, rfl, hnv⟩ := hT.nv HDS.out HCC.out hcm
      have HNV := Lib.hid hnv
      clear hnv hT ht
      go_wp2_with fail
      go_ret
      have h := HNV.out
      rw [HE.out] at h
      exact ⟨_, rfl, h, HIN.out.bel⟩
end Gus
end
section
/- The reference's numbers: Mul. -/
namespace Gus
open Go Go.RowKit Go.Proofs
theorem made_int (L : Nat) : madeCells #[Value.int .i64 0] L = (dcl (List.replicate L 0)).toArray := by
  apply Array.toList_inj.1
  rw [toList_madeCells_one]
  simp [dcl]
theorem mk_ints (L : Nat) (hL : L ≤ 8796093022208) (w : World) : (Instr.makeSlice 41 (.int .i64 (L : Int)) (.int .i64 (L : Int))).run Tryz.prog w =
    .ok (.slice (some ⟨w.heap.size, 0, none⟩) L L) (w.alloc (.cells (dcl (List.replicate L 0)).toArray 3)) := by
  obtain ⟨i0, hi, hz0, hz1, hz2⟩ := info_parts info_int8
  have := run_make (P := Tryz.prog) w 41 3 i0 (.int .i64 0) Tryz.underlying41 hi hz0 .i64 .i64 L L (by omega) (Int.le_refl _) (by rw [hz2]; omega) (by omega)
  rw [this]
  simp only [Int.toNat_natCast, hz1, Nat.mul_one]
  rw [← made_int]; rfl
/-- a block of digits -/
abbrev DBx (w : World) (b : Nat) (xs : List Nat) : Prop := Bx w b 3 (dcl xs)
theorem dcl_get {xs : List Nat} {i : Nat} (h : i < xs.length) : (dcl xs)[i]? = some (.int .i64 (xs.getD i 0 : Nat)) := by
  simp [dcl, List.getElem?_map, List.getD_eq_getElem?_getD, List.getElem?_eq_getElem h]
theorem dcl_set (xs : List Nat) (i d : Nat) : (dcl xs).set i (.int .i64 (d : Nat)) = dcl (xs.set i d) := by
  unfold dcl; rw [List.map_set]
theorem DBx.ds {w : World} {b : Nat} {xs : List Nat} (h : DBx w b xs) : DsAt w (some ⟨b, 0, none⟩) xs := ⟨fun i hi => by
  rw [List.length_map] at hi
  refine ⟨b, 0, rfl, h.lt, ?_⟩
  rw [Nat.zero_add, h.cell i, dcl_get hi]
  simp [List.getD_eq_getElem?_getD, List.getElem?_map, List.getElem?_eq_getElem hi], fun _ p hp => by cases hp; exact ⟨_, _, h⟩⟩
set_option maxRecDepth 100000 in
set_option maxHeartbeats 4000000 in
theorem rmul_any (w : World) (v1 v2 : Value) (m n : Nat) (h1 : NV w v1 m) (h2 : NV w v2 n) (hs1 : (D.wd m).length ≤ 1099511627776) (hs2 : (D.wd n).length ≤ 1099511627776) :
    Calls Tryz.prog 57 #[v1, v2] w fun e w' => RNat w (m * n) e w' := by
  obtain ⟨a1, c1, rfl, _, _, hx⟩ := h1
  obtain ⟨a2, c2, rfl, _, _, hy⟩ := h2
  obtain ⟨xs, hxs⟩ : ∃ xs, xs = D.wd m := ⟨_, rfl⟩
  obtain ⟨ys, hys⟩ : ∃ ys, ys = D.wd n := ⟨_, rfl⟩
  rw [← hxs] at hx hs1 ⊢
  rw [← hys] at hy hs2 ⊢
  have hdx : ∀ i, xs.getD i 0 < 10000 := fun i => by rw [hxs]; exact (D.wd_digs m).getD i
  have hdy : ∀ i, ys.getD i 0 < 10000 := fun i => by rw [hys]; exact (D.wd_digs n).getD i
  have HMX : Hid (m = D.val xs) := Lib.hid (by rw [hxs, D.wd_val])
  have HNY : Hid (n = D.val ys) := Lib.hid (by rw [hys, D.wd_val])
  obtain ⟨L, hk1⟩ : ∃ k, k = xs.length := ⟨_, rfl⟩
  obtain ⟨M, hk2⟩ : ∃ k, k = ys.length := ⟨_, rfl⟩
  have g2 := fun W (h : Below w.heap.size w W) i => ratB W a2 c2 i ys (DsAt.call hy h)
  rw [← hk1] at hs1 ⊢
  rw [← hk2] at g2 hs2 ⊢
  have HX := Lib.hid hx
  have HG2 := Lib.hid g2
  have HDX := Lib.hid hdx
  have HDY := Lib.hid hdy
  have HK1 := Lib.hid hk1
  have HK2 := Lib.hid hk2
  have hmk := mk_ints (L + M) (by omega) w
  rw [show (((L + M : Nat)) : Int) = (L : Int) + M by omega] at hmk
  obtain ⟨g, hg⟩ : ∃ g, g = w.heap.size := ⟨_, rfl⟩
  have hB := Bx.new_at w (dcl (List.replicate (L + M) 0)).toArray 3 hg
  have hB0 : DBx (w.alloc (.cells (dcl (List.replicate (L + M) 0)).toArray 3)) g (List.replicate (L + M) 0) := hB
  have hin0 : In g w (w.alloc (.cells (dcl (List.replicate (L + M) 0)).toArray 3)) := by rw [hg]; exact (In.self w).alloc _
  rw [← hg] at hmk
  have HG := Lib.hid hg
  have HB0 := Lib.hid hB0
  have HI0 := Lib.hid hin0
  clear hxs hys hx hy hdx hdy g2 hk1 hk2 hg hB hB0 hin0
  go_enter Tryz.func57, Tryz.ntmps57
  go_wp2_with fail
  clear hmk
  generalize w.alloc (.cells (dcl (List.replicate (L + M) 0)).toArray 3) = W0 at *
  go_loopw [6] (fun v6 wr => ∃ i zs, i ≤ L ∧ v6 = .int .i64 (i : Nat) ∧ Hid (zs.length = L + M) ∧ Hid (D.Digs zs) ∧ DBx wr g zs ∧ In g w wr ∧ Hid (D.val zs = D.val (xs.take i) * n) ∧ Hid (∀ j, i + M ≤ j → zs.getD j 0 = 0)) (fun v6 _ => L - (RowKit.intOf v6).toNat)
  case atStart => exact ⟨0, _, Nat.zero_le _, rfl, Lib.hid List.length_replicate, Lib.hid (D.digs_replicate _), HB0.out, HI0.out, Lib.hid (by simp [D.val, D.val_replicate]), Lib.hid fun j _ => by simp [List.getD_eq_getElem?_getD, List.getElem?_replicate]; split <;> rfl⟩
  case round =>
    obtain ⟨i, zs, hi, rfl, HZ, HDZ, hbx, hin, HV, HJ⟩ := hrel
    by_cases hlt : i < L
    · have hltI : (i : Int) < L := by omega
      go_wp2_with fail
      rename World => wo
      go_loopw [7, 8] (fun v7 v8 wi => ∃ k c zi, (k ≤ M ∨ (k = M + 1 ∧ c = 0)) ∧ v8 = .int .i64 (k : Nat) ∧ v7 = .int .i64 (c : Nat) ∧ c < 10000 ∧ Hid (zi.length = L + M) ∧ Hid (D.Digs zi) ∧ DBx wi g zi ∧ In g w wi ∧ Hid (D.val zi + 10000 ^ (i + k) * c = D.val zs + 10000 ^ i * (xs.getD i 0 * D.val (ys.take k))) ∧ Hid (∀ j, i + M + 1 ≤ j → zi.getD j 0 = 0) ∧ Hid (k ≤ M → zi.getD (i + M) 0 = 0)) (fun _ v8 _ => M + 2 - (RowKit.intOf v8).toNat)
      case atStart => exact ⟨0, 0, zs, .inl (Nat.zero_le _), rfl, rfl, by decide, HZ, HDZ, hbx, hin, Lib.hid (by simp [D.val]), Lib.hid fun j hj => HJ.out j (by omega), Lib.hid fun _ => HJ.out _ (Nat.le_refl _)⟩
      case round =>
        clear hbx hin
        obtain ⟨k, c, zi, hk, rfl, rfl, hc, HZI, HDI, hbx, hin, HVI, HJI, HKI⟩ := hrel
        obtain ⟨b, hb⟩ : ∃ b, b = decide (k < M ∨ 0 < c) := ⟨_, rfl⟩
        have HBB := Lib.hid hb
        clear hb
        go_upto_region 7 with fail
        go_cut [29] from 22 to 29 (fun v29 wx => v29 = .bool b ∧ wr = wx)
        case first =>
          by_cases h1 : k < M
          · have h1I : (k : Int) < M := by omega
            have H1 := Lib.hid h1
            go_wp2_with fail
            go_meet
            exact ⟨by rw [HBB.out, decide_eq_true (.inl H1.out)], rfl⟩
          · have h1I : ¬ (k : Int) < M := by omega
            by_cases h3 : 0 < c
            · have h3I : (0 : Int) < c := by omega
              have H3 := Lib.hid h3
              go_wp2_with fail
              go_meet
              exact ⟨by rw [HBB.out, decide_eq_true (.inr H3.out)], rfl⟩
            · have h3I : ¬ (0 : Int) < c := by omega
              have HN : Hid (¬ (k < M ∨ 0 < c)) := Lib.hid (by omega)
              go_wp2_with fail
              go_meet
              exact ⟨by rw [HBB.out, decide_eq_false HN.out], rfl⟩
        case rest =>
          obtain ⟨rfl, rfl⟩ := hcut
          rcases b with _ | _
          · have hN : ¬ (k < M ∨ 0 < c) := of_decide_eq_false HBB.out.symm
            obtain rfl : c = 0 := by omega
            have hkM : M ≤ k := by omega
            have HV2 : Hid (D.val zi = D.val (xs.take (i + 1)) * n) := Lib.hid (by
              have h := HVI.out
              rw [digs_take_ge (by rw [← HK2.out]; exact hkM), ← HNY.out, HV.out] at h
              rw [D.val_take_succ, Nat.add_mul]
              rw [Nat.mul_assoc]; omega)
            clear hN
            go_wp2_with fail
            exact ⟨⟨i + 1, zi, by omega, by go_num, HZI, HDI, hbx, hin, HV2, Lib.hid fun j hj => HJI.out j (by omega)⟩, by simp [RowKit.intOf]; omega⟩
          · have hY : k < M ∨ 0 < c := of_decide_eq_true HBB.out.symm
            have hkM : k ≤ M := by omega
            obtain ⟨b1, o1, rfl, hb1, hcx⟩ := HX.out.at (i := i) (by rw [← HK1.out]; exact hlt)
            have hb1g : b1 < g := by rw [HG.out]; exact hb1
            rw [← hin.cell b1 _ hb1g] at hcx
            have hgw := hbx.lt
            have hbw : b1 < wr.heap.size := by omega
            have hdx := HDX.out i
            have hdy := HDY.out k
            have hdo := HDI.out.getD (i + k)
            obtain ⟨x, hx⟩ : ∃ x, x = xs.getD i 0 := ⟨_, rfl⟩
            obtain ⟨y, hy⟩ : ∃ y, y = ys.getD k 0 := ⟨_, rfl⟩
            obtain ⟨o, ho⟩ : ∃ o, o = zi.getD (i + k) 0 := ⟨_, rfl⟩
            have hco := hbx.cell (i + k)
            rw [dcl_get (by rw [HZI.out]; omega), ← ho] at hco
            have cy := fun W (h : In wr.heap.size wr W) => HG2.out W ((hin.bel.mono (by rw [← HG.out]; exact Nat.le_refl _)).trans (h.bel.mono (by have := hin.siz; rw [← HG.out]; omega))) k
            rw [← hx] at hcx hdx
            rw [← hy] at hdy
            rw [← ho] at hdo
            simp only [← hy] at cy
            obtain ⟨p, hp⟩ : ∃ p, p = x * y := ⟨_, rfl⟩
            have hpl : p ≤ 9999 * 9999 := by rw [hp]; exact Nat.mul_le_mul (by omega) (by omega)
            obtain ⟨s, hs⟩ : ∃ s, s = o + p + c := ⟨_, rfl⟩
            have hpI : (x : Int) * y = (p : Int) := by rw [hp]; push_cast; rfl
            have hst := D.mul_step (K := 10000 ^ k) (Nat.pow_add _ i k) (a := D.val zi) (b := D.val zs) (T := 10000 ^ i) (x := x) (y := y) (V := D.val (ys.take k)) (c := c) (o := o) (s := s) (a' := D.val (zi.set (i + k) (s % 10000))) (by rw [hx]; exact HVI.out) (by rw [hs, hp]; omega) (by rw [ho]; exact D.val_set zi (i + k) _ (by rw [HZI.out]; omega))
            rw [hy, ← D.val_take_succ, ← Nat.pow_succ, hx] at hst
            have HS : Hid (D.val (zi.set (i + k) (s % 10000)) + 10000 ^ (i + (k + 1)) * (s / 10000) = D.val zs + 10000 ^ i * (xs.getD i 0 * D.val (ys.take (k + 1)))) := Lib.hid hst
            have hend : k + 1 ≤ M ∨ (k + 1 = M + 1 ∧ s / 10000 = 0) := by
              by_cases h : k + 1 ≤ M
              · exact .inl h
              · refine .inr ⟨by omega, ?_⟩
                have e1 : y = 0 := by rw [hy, List.getD_eq_getElem?_getD, List.getElem?_eq_none (by rw [← HK2.out]; omega)]; rfl
                have e2 : o = 0 := by rw [ho, show k = M by omega]; exact HKI.out hkM
                have e3 : p = 0 := by rw [hp, e1, Nat.mul_zero]
                omega
            have HEND := Lib.hid hend
            have hw0 : IntKind.i64.wrap ((i : Int) + k) = (i : Int) + k := IntWalk.i64_in _ (by omega)
            have hw1 : IntKind.i64.wrap ((x : Int) * y) = (p : Int) := by rw [hpI]; exact IntWalk.i64_in _ (by omega)
            have hw2 : IntKind.i64.wrap ((o : Int) + p) = (o : Int) + p := IntWalk.i64_in _ (by omega)
            have hw3 : IntKind.i64.wrap ((o : Int) + p + c) = (s : Int) := by rw [show (o : Int) + p + c = (s : Int) by omega]; exact IntWalk.i64_in _ (by omega)
            have hi0 : (0 : Int) ≤ (i : Int) + k := by omega
            have hi1 : (i : Int) + k < L + M := by omega
            have hi2 : ((i : Int) + k).toNat = i + k := by omega
            have hsI : (s : Int) < 100000000 := by omega
            have HO := Lib.hid ho
            clear hx hy ho hp hs hst hend hY hpI
            go_upto_region 9 with fail
            have h := In.self wr
            have hcc := h.cell
            have hf := h.frozen
            refine wp_region_flow 17 (by kernel_rfl) (by kernel_rfl) (fun _ _ d _ _ h => by cases d <;> exact h) ?_; simp only [List.take_succ_cons, List.take_zero, List.drop_succ_cons, List.drop_zero]; simp only [putAll, Act.put, List.setIfInBounds_toArray, List.set]; (try simp only [Nat.reduceAdd]); (try simp only [Nat.zero_add]); (repeat (first | ((with_reducible refine flow_float (v := ?_) ?_ ?_ ?_); rotate_left 1; (focus (with_reducible rfl)); (focus (intro u w1 hw hd w2; (try simp only [depH] at hd); (try simp only [ext] at hd); (try simp only [extU] at hd); (try simp only [Nat.reduceAdd] at hd); (try simp only [Nat.reduceEqDiff] at hd); (try simp only [reduceIte] at hd); (try simp only [and_true] at hd); (try simp only [true_and] at hd); go_simp; exact rfl))) | ((first | ((with_reducible refine flow_pure0 (v := ?_) ?_ ?_ ?_ ?_); rotate_left 1; (focus (with_reducible rfl)); (focus rfl)) | ((with_reducible refine flow_pureg (v := ?_) (j := ?_) (b := ?_) ?_ ?_ ?_ ?_); rotate_left 3; (focus (with_reducible rfl)); (focus (intro u w1 hw hd; (try simp only [depH] at hd); (try simp only [ext] at hd); (try simp only [extU] at hd); (try simp only [Nat.reduceAdd] at hd); (try simp only [Nat.reduceEqDiff] at hd); (try simp only [reduceIte] at hd); (try simp only [and_true] at hd); (try simp only [true_and] at hd); simp [yielded, hd]; done)))); (focus (intro u w1 hw hd; (try simp only [depH] at hd); (try simp only [ext] at hd); (try simp only [extU] at hd); (try simp only [Nat.reduceAdd] at hd); (try simp only [Nat.reduceEqDiff] at hd); (try simp only [reduceIte] at hd); (try simp only [and_true] at hd); (try simp only [true_and] at hd); have hc' := hw.cell; first | (go_simp; exact rfl) | (go_simp; go_at_call 91; ((with_reducible refine (cy _ hw.ins).mono ?_)); rintro e w'' ⟨rfl, hb⟩; refine ⟨?_, hb⟩; exact rfl)))) | ((with_reducible refine flow_skipg (j := ?_) (b := ?_) ?_ ?_ ?_); rotate_left 2; (focus (with_reducible rfl)); (focus (intro u w1 hw hd; (try simp only [depH] at hd); (try simp only [ext] at hd); (try simp only [extU] at hd); (try simp only [Nat.reduceAdd] at hd); (try simp only [Nat.reduceEqDiff] at hd); (try simp only [reduceIte] at hd); (try simp only [and_true] at hd); (try simp only [true_and] at hd); simp [yielded, hd]; done))) | ((with_reducible refine flow_alloc (t := ?_) (zs := ?_) ?_ ?_ ?_ ?_); rotate_left 2; (focus (with_reducible rfl)); (focus rfl); (focus (intro u w1; go_simp; exact rfl)))))
            (try clear hc hf h); intro u w' h ha hdi; replace h := h.ins; (try simp only [World.size_alloc] at h); (try dsimp only at ha); (repeat rw [World.size_alloc] at ha); (try simp only [allH] at ha); (try simp only [ext] at ha); (try simp only [extU] at ha); (try simp only [Nat.reduceAdd] at ha); (try simp only [Nat.reduceEqDiff] at ha); (try simp only [reduceIte] at ha); (try simp only [and_true] at ha); (try simp only [true_and] at ha); have hc := h.cell; have hf := h.frozen
            (try obtain ha := ha); (try dsimp only);  simp only [ha]; clear ha hdi 
            have hbx2 := hbx.call h.bel
            have hin2 := hin.call h.bel
            have hco2 := hbx2.cell (i + k)
            rw [dcl_get (by rw [HZI.out]; omega), ← HO.out] at hco2
            have hfo2 := hbx2.frozen (i + k)
            have hgl := hbx2.lt
            have HB2 : Hid (DBx (w'.setCell ⟨g, i + k, none⟩ (.int .i64 ((s : Int) % 10000))) g (zi.set (i + k) (s % 10000))) := Lib.hid (by
              have h9 := hbx2.set (i + k) (.int .i64 ((s % 10000 : Nat) : Int))
              rw [dcl_set] at h9
              rw [show (s : Int) % 10000 = ((s % 10000 : Nat) : Int) by omega]; exact h9)
            have HI2 := Lib.hid (hin2.setCell (p := ⟨g, i + k, none⟩) (Nat.le_refl _) (.int .i64 ((s : Int) % 10000)))
            have HZ2 : Hid ((zi.set (i + k) (s % 10000)).length = L + M) := Lib.hid (by rw [List.length_set, HZI.out])
            have HD2 : Hid (D.Digs (zi.set (i + k) (s % 10000))) := Lib.hid (HDI.out.set _ _ (Nat.mod_lt _ (by decide)))
            have HJ2 : Hid (∀ j, i + M + 1 ≤ j → (zi.set (i + k) (s % 10000)).getD j 0 = 0) := Lib.hid fun j hj => by rw [D.set_getD _ _ _ _ (by omega)]; exact HJI.out j hj
            have HK9 : Hid (k + 1 ≤ M → (zi.set (i + k) (s % 10000)).getD (i + M) 0 = 0) := Lib.hid fun hk => by rw [D.set_getD _ _ _ _ (by omega)]; exact HKI.out hkM
            have hsd : s / 10000 < 10000 := by omega
            clear hbx hin hbx2 hin2 hcx hbw hgw hco h hc hf hcc cy hw1 hw2 hw3
            go_wp2_with fail
            exact ⟨⟨k + 1, s / 10000, _, HEND.out, by go_num, by go_num, hsd, HZ2, HD2, HB2.out, HI2.out, HS, HJ2, HK9⟩, by simp [RowKit.intOf]; omega⟩
    · obtain rfl : i = L := by omega
      have hltI : ¬ (i : Int) < i := by omega
      have hE : D.val zs = m * n := by
        have h := HV.out
        rw [digs_take_ge (by rw [← HK1.out]; exact Nat.le_refl _), ← HMX.out] at h
        exact h
      have hds := hbx.ds
      have hzl := HZ.out
      have ht := rtrim_any wr (some ⟨g, 0, none⟩) (i + M) zs hds HDZ.out (by rw [hzl]; exact Nat.le_refl _) (by omega)
      rw [hzl] at ht
      have HE := Lib.hid hE
      have HDS := Lib.hid hds
      have HIN := Lib.hid hin
      clear hE hds hzl hbx hin
      go_wp2_with fail
      ((with_reducible refine ht.mono ?_))
      rintro e w' ⟨hT, rfl⟩
      obtain ⟨v, rfl, hnv⟩ := hT.nv HDS.out (by rw [HZ.out]; exact Nat.le_refl _) (by omega)
      have HNV := Lib.hid hnv
      clear hnv hT ht
      go_wp2_with fail
      go_ret
      have h := HNV.out
      rw [HE.out] at h
      exact ⟨_, rfl, h, by rw [← HG.out]; exact HIN.out.bel⟩
end Gus
end
section
/- The reference's numbers: leading. -/
namespace Gus
open Go Go.RowKit Go.Proofs
theorem drop_step {l : List Nat} {j : Nat} (h : j < l.length) : D.val (l.drop j) = l.getD j 0 + 10000 * D.val (l.drop (j + 1)) := by
  rw [List.drop_eq_getElem_cons h, List.getD_eq_getElem?_getD, List.getElem?_eq_getElem h]; rfl
theorem drop_lt {l : List Nat} (h : D.Digs l) {j k : Nat} (hk : l.length ≤ j + k) : D.val (l.drop j) < 10000 ^ k := by
  have h1 := D.val_lt (h.drop j)
  rw [List.length_drop] at h1
  exact Nat.lt_of_lt_of_le h1 (Nat.pow_le_pow_right (by decide) (by omega))
set_option maxRecDepth 100000 in
set_option maxHeartbeats 1000000 in
theorem rlead_le (w : World) (a : Option Addr) (cap f : Nat) (l : List Nat) (hA : DsAt w a l) (hd : D.Digs l) (hf : f ≤ l.length) (hl : l.length ≤ f + 4) (hs : l.length ≤ 1099511627776) :
    Calls Tryz.prog 124 #[.slice a l.length cap, .int .i64 (f : Nat)] w fun e w' => e = .returned (.int .i64 (D.val (l.drop f) : Nat)) ∧ Below w.heap.size w w' := by
  have HA := Lib.hid hA
  obtain ⟨n, hn⟩ : ∃ n, n = l.length := ⟨_, rfl⟩
  rw [← hn] at hf hl hs ⊢
  have HN := Lib.hid hn
  have HB : Hid (∀ j, f ≤ j → D.val (l.drop j) < 10000000000000000) := Lib.hid fun j hj => by
    have := drop_lt hd (j := j) (k := 4) (by omega)
    simpa using this
  have HD : Hid (∀ j, l.getD j 0 < 10000) := Lib.hid fun j => hd.getD j
  clear hA hn hd
  go_enter Tryz.func124, Tryz.ntmps124
  go_wp2_with fail
  go_loopw [5, 6] (fun v5 v6 wr => ∃ j m : Nat, f ≤ j ∧ j ≤ n ∧ v6 = .int .i64 ((j : Int) - 1) ∧ v5 = .int .i64 (m : Nat) ∧ Hid (m = D.val (l.drop j)) ∧ Below w.heap.size w wr) (fun _ v6 _ => (RowKit.intOf v6 + 1).toNat)
  case atStart => exact ⟨n, 0, hf, Nat.le_refl _, rfl, rfl, Lib.hid (by rw [List.drop_of_length_le (by rw [HN.out]; exact Nat.le_refl _)]; rfl), .refl _ _⟩
  case round =>
    obtain ⟨j, m, hj, hjn, rfl, rfl, HM, hbel⟩ := hrel
    by_cases h0 : j = f
    · subst h0
      have hI : ¬ (j : Int) ≤ (j : Int) - 1 := by omega
      go_wp2_with fail
      go_ret
      exact ⟨by rw [HM.out]; rfl, hbel⟩
    · have hp : 1 ≤ j := by omega
      have hI : (f : Int) ≤ (j : Int) - 1 := by omega
      obtain ⟨b, o, rfl, hb, hx⟩ := DsAt.at (l := l) (DsAt.call HA.out hbel) (i := j - 1) (by rw [← HN.out]; omega)
      have hdx := HD.out (j - 1)
      obtain ⟨x, hx'⟩ : ∃ x, x = l.getD (j - 1) 0 := ⟨_, rfl⟩
      rw [← hx'] at hx hdx
      have hm : m < 10000000000000000 := by rw [HM.out]; exact HB.out j hj
      have hb1 := HB.out (j - 1) (by omega)
      rw [drop_step (by rw [← HN.out]; omega), ← hx', show j - 1 + 1 = j by omega, ← HM.out] at hb1
      have HM2 : Hid (10000 * m + x = D.val (l.drop (j - 1))) := Lib.hid (by
        rw [drop_step (by rw [← HN.out]; omega), ← hx', show j - 1 + 1 = j by omega, ← HM.out]; omega)
      have ht : ((j : Int) - 1).toNat = j - 1 := by omega
      have hr1 : (0 : Int) ≤ (j : Int) - 1 := by omega
      have hr2 : ((j : Int) - 1) < n := by omega
      have hmI : (m : Int) * 10000 < 1000000000000000000 := by omega
      clear hx' h0
      go_wp2_with fail
      exact ⟨⟨j - 1, 10000 * m + x, by omega, by omega, by go_num, by go_num, HM2, hbel⟩, by simp [RowKit.intOf]; omega⟩
set_option maxRecDepth 100000 in
theorem rlead_any (w : World) (a : Option Addr) (cap f : Nat) (l : List Nat) (hA : DsAt w a l) (hd : D.Digs l) (hl : l.length ≤ f + 4) (hs : l.length ≤ 1099511627776) :
    Calls Tryz.prog 124 #[.slice a l.length cap, .int .i64 (f : Nat)] w fun e w' => e = .returned (.int .i64 (D.val (l.drop f) : Nat)) ∧ Below w.heap.size w w' := by
  by_cases h : f ≤ l.length
  · exact rlead_le w a cap f l hA hd h hl hs
  · rw [List.drop_of_length_le (by omega)]
    obtain ⟨n, hn⟩ : ∃ n, n = l.length := ⟨_, rfl⟩
    rw [← hn] at h hs ⊢
    have hI : ¬ (f : Int) ≤ (n : Int) - 1 := by omega
    clear hn hA hd hl h
    go_enter Tryz.func124, Tryz.ntmps124
    go_wp2_with fail
    refine wp_loop_rounds 1 ?_
    rw [rounds_succ]
    go_wp2_with fail
    go_ret
    exact ⟨rfl, .refl _ _⟩
/-- a quotient's digit lies between the bounds that leading digits give -/
theorem digit_bounds {P f t r b : Nat} (hr : f * P ≤ r ∧ r < f * P + P) (hb : t * P ≤ b ∧ b < t * P + P) (ht : 0 < t) : f / (t + 1) ≤ r / b ∧ r / b ≤ f / t := by
  have hP : 0 < P := by omega
  have hb0 : 0 < b := by have := Nat.mul_pos ht hP; omega
  constructor
  · rw [Nat.le_div_iff_mul_le hb0]
    have h1 := Nat.div_mul_le_self f (t + 1)
    have h2 : f / (t + 1) * b ≤ f / (t + 1) * ((t + 1) * P) := Nat.mul_le_mul_left _ (by rw [Nat.add_mul, Nat.one_mul]; omega)
    have h3 : f / (t + 1) * ((t + 1) * P) ≤ f * P := by rw [← Nat.mul_assoc]; exact Nat.mul_le_mul_right _ h1
    omega
  · rw [Nat.le_div_iff_mul_le ht]
    have h1 := Nat.div_mul_le_self r b
    have h2 : r / b * (t * P) ≤ r / b * b := Nat.mul_le_mul_left _ hb.1
    have h3 : r / b * t * P < (f + 1) * P := by rw [Nat.mul_assoc, Nat.add_mul, Nat.one_mul]; omega
    have := Nat.lt_of_mul_lt_mul_right h3
    omega
theorem lead_bounds {l : List Nat} (hd : D.Digs l) (f : Nat) : D.val (l.drop f) * 10000 ^ f ≤ D.val l ∧ D.val l < D.val (l.drop f) * 10000 ^ f + 10000 ^ f := by
  by_cases hf : f ≤ l.length
  · have h := D.val_split l f
    have h2 := D.val_lt (hd.take f)
    rw [List.length_take, Nat.min_eq_left hf] at h2
    rw [Nat.min_eq_left hf] at h
    rw [Nat.mul_comm]
    omega
  · have h2 := D.val_lt hd
    have h3 : 10000 ^ l.length ≤ 10000 ^ f := Nat.pow_le_pow_right (by decide) (by omega)
    rw [List.drop_of_length_le (by omega)]
    show 0 * _ ≤ _ ∧ _ < 0 * _ + _
    omega
end Gus
end
