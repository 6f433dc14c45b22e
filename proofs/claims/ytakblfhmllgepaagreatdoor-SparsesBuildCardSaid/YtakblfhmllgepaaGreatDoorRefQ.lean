/- Proved here: parts of the proof: Ref Reh. Conditions: those that each theorem states. -/
import Derived.Test.YtakblfhmllgepaaGreatDoorRdwQ
import Derived.Test.YtakblfhmllgepaaGreatDoorBldBQ
section
/- The reference's matrices: Zero. -/
namespace Gus
open Go Go.RowKit Go.Proofs
theorem info_refF : (Tryz.prog.info? 45).map (fun i => (i.zero, i.size, i.bytes)) = some (some (.agg #[.bool false, .slice none 0 0, .slice none 0 0]), 3, 56) := by kernel_rfl
theorem info_refRow : (Tryz.prog.info? 84).map (fun i => (i.zero, i.size, i.bytes)) = some (some (.slice none 0 0), 1, 24) := by kernel_rfl
abbrev zV3 : V3 := (.bool false, .slice none 0 0, .slice none 0 0)
theorem FV.zero (w : World) : FV w (v3v zV3) 0 := ⟨none, 0, 0, _, rfl, NV.zero w, NV.zero w⟩
theorem RowR.of_box {w : World} {g cap c : Nat} {vs : List V3} {G : Nat → Rat} (h : Bx w g 45 (vs.flatMap v3c)) (hc : c = vs.length) (hv : ∀ j (hj : j < vs.length), FV w (v3v vs[j]) (G j)) : RowR w (.slice (some ⟨g, 0, none⟩) c cap) c G := by
  subst hc
  refine ⟨_, cap, rfl, fun k hk => ⟨g, 0, (vs[k]'hk).1, (vs[k]'hk).2.1, (vs[k]'hk).2.2, rfl, ⟨_, _, h⟩, ?_, ?_, ?_, hv k hk⟩⟩
  · rw [h.cell, Nat.zero_add, ← Nat.add_zero (k * 3), flat3_at vs k 0 hk (by decide)]; rfl
  · rw [h.cell, Nat.zero_add, flat3_at vs k 1 hk (by decide)]; rfl
  · rw [h.cell, Nat.zero_add, flat3_at vs k 2 hk (by decide)]; rfl
theorem made_refF (L : Nat) : madeCells (Value.agg #[.bool false, .slice none 0 0, .slice none 0 0]).cells (L * 3) = ((List.replicate L zV3).flatMap v3c).toArray := by
  apply Array.ext
  · show _ = ((List.replicate L zV3).flatMap v3c).length
    rw [flat3_length, List.length_replicate]; simp [madeCells]
  · intro t h1 h2
    have ht : t < L * 3 := by simpa [madeCells] using h1
    have h3 : t / 3 < (List.replicate L zV3).length := by simp; omega
    have h4 : t % 3 < 3 := Nat.mod_lt _ (by decide)
    have h5 := flat3_at (List.replicate L zV3) (t / 3) (t % 3) h3 h4
    rw [show t / 3 * 3 + t % 3 = t by omega, List.getElem_replicate] at h5
    have h6 : t < ((List.replicate L zV3).flatMap v3c).length := by simpa using h2
    rw [List.getElem?_eq_getElem h6] at h5
    simp only [madeCells, Array.getElem_map, Array.getElem_range, List.getElem_toArray]
    have h7 : t % 3 = 0 ∨ t % 3 = 1 ∨ t % 3 = 2 := by omega
    have hs : (Value.agg #[.bool false, .slice none 0 0, .slice none 0 0]).cells.size = 3 := rfl
    rw [hs]
    rcases h7 with h | h | h <;> rw [h] at h5 ⊢ <;> exact (Option.some.inj h5.symm)
theorem mk_refF (L : Nat) (hL : L ≤ 4194304) (w : World) : (Instr.makeSlice 84 (.int .i64 (L : Int)) (.int .i64 (L : Int))).run Tryz.prog w =
    .ok (.slice (some ⟨w.heap.size, 0, none⟩) L L) (w.alloc (.cells ((List.replicate L zV3).flatMap v3c).toArray 45)) := by
  obtain ⟨i0, hi, hz0, hz1, hz2⟩ := info_parts info_refF
  have := run_make (P := Tryz.prog) w 84 45 i0 _ Tryz.underlying84 hi hz0 .i64 .i64 L L (by omega) (Int.le_refl _) (by rw [hz2]; omega) (by omega)
  rw [this]
  simp only [Int.toNat_natCast, hz1]
  rw [made_refF]
set_option maxRecDepth 100000 in
set_option maxHeartbeats 4000000 in
theorem rzero16_any (w : World) (r c : Nat) (hr : r ≤ 2048) (hc : c ≤ 2048) :
    Calls Tryz.prog 6 #[.int .i64 (r : Nat), .int .i64 (c : Nat)] w fun e w' => (∃ v, e = .returned v ∧ MatR w' v r c (fun _ _ => 0)) ∧ Below w.heap.size w w' := by
  obtain ⟨j0, hj0, hj1, hj2, hj3⟩ := info_parts info_refRow
  obtain ⟨fc, hfc⟩ : ∃ fc, fc = ((List.replicate c zV3).flatMap v3c) := ⟨_, rfl⟩
  have hmk := mk_refF c (by omega)
  rw [← hfc] at hmk
  have HFC := Lib.hid hfc
  clear hfc
  go_enter Tryz.func6, Tryz.ntmps6
  go_upto_region 2 with fail
  ((obtain ⟨X, hXX⟩ : ∃ z, z = w.heap.size := ⟨_, rfl⟩); (have bV0 := ((Bx.new_at w #[.int .i64 0, .slice none 0 0] 30 (n := X) (by simp [hXX])).alloc (.cells #[.int .i64 c, .slice none 0 0] 30))); (have bV1 := (Bx.new_at (w.alloc (.cells #[.int .i64 0, .slice none 0 0] 30)) #[.int .i64 c, .slice none 0 0] 30 (n := X + 1) (by simp [hXX]))); (have hV := (((In.self w).alloc (.cells #[.int .i64 0, .slice none 0 0] 30)).alloc (.cells #[.int .i64 c, .slice none 0 0] 30))); (rw [← hXX] at hV ⊢); (have HX := Lib.hid hXX); (clear hXX); (generalize (w.alloc (.cells #[.int .i64 0, .slice none 0 0] 30)).alloc (.cells #[.int .i64 c, .slice none 0 0] 30) = V at *))
  go_wp2_with fail
  go_loopw [6] (fun v6 wr => ∃ (i : Nat) (v : Value), i ≤ r ∧ v6 = .int .i64 i ∧ In X w wr ∧ Bx wr X 30 [.int .i64 0, .slice none 0 0] ∧ Bx wr (X + 1) 30 [.int .i64 c, v] ∧ OutR wr (X + 1 + 1) v i c (fun _ _ => 0)) (fun v6 _ => r - (RowKit.intOf v6).toNat)
  case atStart => exact ⟨0, _, Nat.zero_le _, rfl, hV, bV0, bV1, OutR.start _ _ _ _⟩
  case round =>
    rename World => wr
    clear hV bV0 bV1
    obtain ⟨i, v, hi, rfl, hin, bx, by_, hout⟩ := hrel
    by_cases hir : i < r
    · have hirI : (i : Int) < r := by omega
      have hiw : IntKind.i64.wrap ((i : Int) + 1) = ((i + 1 : Nat) : Int) := IntWalk.i64_in _ (by omega)
      obtain ⟨va, vc, rfl⟩ := hout.shape
      obtain ⟨vs, ho1, ho2⟩ := hout
      have HO1 := Lib.hid ho1
      have HO2 := Lib.hid ho2
      have HBX := Lib.hid bx
      have HIN := Lib.hid hin
      have hvlt := ho1.lt
      have HVLT := Lib.hid hvlt
      clear ho1 ho2 bx hin hvlt
      go_upto_region 5 with fail
      refine wp_region_mixL (fun w' => w'.cell? ⟨X + 1, 1, none⟩ = some (.slice va i vc)) 7 [(0, true), (1, true), (2, true), (3, false), (4, false), (5, false), (6, true), (7, false)] (by kernel_rfl) (by kernel_rfl) (by kernel_rfl) (by kernel_rfl) (by kernel_rfl) (by kernel_rfl) (by kernel_rfl) (by kernel_rfl) (fun _ _ d _ _ h => by cases d <;> exact h) ?_ ?_
      · exact by_.c1
      (repeat (apply mixL_take; (focus rfl); (focus rfl); (focus (intro w' hw'; have hq : World.cell? w' ⟨X + 1, 1, none⟩ = some (.slice va i vc) := hw'; go_simp; exact rfl)); (try simp only [Act.put]); (try simp only [List.setIfInBounds_toArray]); (try simp only [List.set])))
      have by4 := by_.drew
      have HO1 := Lib.hid (show wr.drew.ownsRow (X + 1 + 1) 84 1 (.slice va i vc) i vs from HO1.out)
      have HO2 : Hid (∀ j, j < i → RowR wr.drew (vs.getD j undef) c (fun _ => 0)) := Lib.hid (fun j hj => (HO2.out j hj).drew)
      have HBX := Lib.hid HBX.out.drew
      have HIN := Lib.hid HIN.out.drew
      clear by_
      generalize wr.drew = W4 at *
      have hm4 := hmk W4
      (apply mixL_run; (focus rfl); (focus rfl); intro K hK; go_simp)
      refine hK _ _ (fun _ => (by4.alloc _).c1) ?_
      clear hK K hm4
      obtain ⟨G, hG⟩ : ∃ G, G = W4.heap.size := ⟨_, rfl⟩
      have bg := Bx.new_at W4 fc.toArray 45 hG
      rw [List.toList_toArray] at bg
      have by5 := by4.alloc (.cells fc.toArray 45)
      have hal : Below W4.heap.size W4 (W4.alloc (.cells fc.toArray 45)) := (Below.refl _ _).alloc (Nat.le_refl _) _
      have HO1 := Lib.hid (ownsRow_bel HO1.out hal)
      have HO2 := Lib.hid (fun j hj => (HO2.out j hj).call hal)
      have HBX := Lib.hid (HBX.out.call hal)
      have HIN := Lib.hid (HIN.out.call hal)
      rw [← hG]
      clear hal hG by4
      generalize W4.alloc (.cells fc.toArray 45) = W5 at *
      (apply mixL_run; (focus rfl); (focus rfl); intro K hK; go_simp)
      refine hK _ _ (fun _ => (by5.alloc _).c1) ?_
      clear hK K
      obtain ⟨Q, hQ⟩ : ∃ Q, Q = W5.heap.size := ⟨_, rfl⟩
      have bq := Bx.new_at W5 #[.slice (some ⟨G, 0, none⟩) c c] 84 hQ
      have by6 := by5.alloc (.cells #[.slice (some ⟨G, 0, none⟩) c c] 84)
      have bg6 := bg.alloc (.cells #[.slice (some ⟨G, 0, none⟩) c c] 84)
      have hal : Below W5.heap.size W5 (W5.alloc (.cells #[.slice (some ⟨G, 0, none⟩) c c] 84)) := (Below.refl _ _).alloc (Nat.le_refl _) _
      have HO1 := Lib.hid (ownsRow_bel HO1.out hal)
      have HO2 := Lib.hid (fun j hj => (HO2.out j hj).call hal)
      have HBX := Lib.hid (HBX.out.call hal)
      have HIN := Lib.hid (HIN.out.call hal)
      rw [← hQ]
      clear hal hQ by5 bg
      generalize W5.alloc (.cells #[.slice (some ⟨G, 0, none⟩) c c] 84) = W6 at *
      have hX6 := by6.lt
      refine mixL_list rfl (wpList_append_own _ rfl (.tmp 15) (.tmp 18) 28 rfl (X + 1 + 1) 84 j0 (.slice none 0 0) 1 24 Tryz.underlying28 hj0 hj1 hj2 hj3 rfl (by decide) (.slice va i vc) i vs rfl HO1.out ⟨Q, 0, none⟩ 1 1 [.slice (some ⟨G, 0, none⟩) c c] rfl rfl ?c1 ?c2 ?c3 ?c4 ?c5 ?_)
      case c1 => intro j u hj; rw [Addr.add_lit, Nat.zero_add, bq.cell j]; exact hj
      case c2 => (first | rfl | (intro u hu; simp only [List.mem_cons, List.not_mem_nil, or_false] at hu; subst hu; rfl))
      case c3 => simp only [maxLen]; omega
      case c4 => omega
      case c5 => omega
      intro v' w7 hown7 hgr _
      have hnx := fun k (h : (Value.slice va i vc).ownBlock = some k) => (HVLT.out k h).1
      have by7 := by6.grown hgr (fun h => by have := hnx _ h.symm; omega)
      have hout7 : OutR w7 (X + 1 + 1) v' (i + 1) c (fun _ _ => 0) := OutR.snoc HO1.out HO2.out (RowR.of_box (vs := List.replicate c zV3) (by rw [← HFC.out]; exact bg6) (by rw [List.length_replicate]) (fun j hj => by rw [List.getElem_replicate]; exact FV.zero _)) hown7 hgr
      have hin7 : In X w w7 := ⟨HIN.out.bel.grown hgr HIN.out.siz (fun k h => by have := hnx _ h; omega), Nat.le_trans HIN.out.siz hgr.size⟩
      have hbx7 := HBX.out.grown hgr (fun h => by have := hnx _ h.symm; omega)
      refine And.intro (fun _ => by7.c1) ?_
      obtain ⟨g9, c9, rfl⟩ : ∃ g9 c9, v' = .slice (some ⟨g9, 0, none⟩) (i + 1) c9 := by exact ownsRow_cons hown7
      have K1 := Lib.hid (hout7.set by7 (j := 1) (x := .slice (some ⟨g9, 0, none⟩) (i + 1) c9))
      have K2 := Lib.hid (hin7.setCell (p := ⟨X + 1, 1, none⟩) (by simp) (.slice (some ⟨g9, 0, none⟩) (i + 1) c9))
      have K3 := Lib.hid (Bx.other (a := ⟨X + 1, 1, none⟩) hbx7 (by simp) (.slice (some ⟨g9, 0, none⟩) (i + 1) c9))
      have K4 := Lib.hid (by7.set 1 (.slice (some ⟨g9, 0, none⟩) (i + 1) c9))
      have q1 := by7.c1
      have qf := by7.frozen 1
      have ql := by7.lt
      clear hown7 hgr hnx by7 hout7 hin7 hbx7 HO1 HO2 HBX HIN by6 bg6 bq hX6 HVLT
      (try simp only [Act.put]); (try simp only [List.setIfInBounds_toArray]); (try simp only [List.set])
      (repeat (apply mixL_take; (focus rfl); (focus rfl); (focus (intro w' hw'; skip; go_simp; exact rfl)); (try simp only [Act.put]); (try simp only [List.setIfInBounds_toArray]); (try simp only [List.set])))
      (apply mixL_run; (focus rfl); (focus rfl); intro K hK; go_simp)
      refine hK _ _ (fun h => absurd h (by decide)) ?_
      clear hK K
      refine mixL_done ?_
      go_wp2_with fail
      exact ⟨⟨i + 1, _, by omega, by go_num, K2.out, K3.out, K4.out, K1.out⟩, by simp [RowKit.intOf]; omega⟩
    · obtain rfl : i = r := by omega
      have hirI : ¬ (i : Int) < i := by omega
      obtain ⟨va, vc, rfl⟩ := hout.shape
      have HM := Lib.hid hout.mat
      have x0 := bx.c0
      have x1 := bx.c1
      have y0 := by_.c0
      have y1 := by_.c1
      have xf0 := bx.frozen 0
      have xf1 := bx.frozen 1
      have xl := bx.lt
      have yl := by_.lt
      have K1 := Lib.hid ((HM.out.keepT (.of_set (j := 0) bx (by unfold tyM tyR; decide) (.int .i64 (c : Nat)))).keepT (.of_set (j := 1) (bx.set 0 (.int .i64 (c : Nat))) (by unfold tyM tyR; decide) (.slice va i vc)))
      have K2 := Lib.hid ((hin.setCell (p := ⟨X, 0, none⟩) (Nat.le_refl _) (.int .i64 (c : Nat))).setCell (p := ⟨X, 1, none⟩) (Nat.le_refl _) (.slice va i vc))
      have K3 := Lib.hid ((bx.set 0 (.int .i64 (c : Nat))).set 1 (.slice va i vc))
      clear hout hin bx by_ HM
      go_wp2_with fail
      have k3 := K3.out
      have e0 := k3.c0
      have e1 := k3.c1
      clear x0 x1 xf0 xf1 y0 y1
      (try simp only [List.set] at e0 e1)
      exact bodyPost_ret (v := .agg #[.int .i64 c, .slice va i vc]) (by simp [results, Tryz.results6, go_sem, e0, e1]) rfl ⟨⟨_, rfl, K1.out⟩, by rw [← HX.out]; exact K2.out.bel⟩
end Gus
end
section
/- The reference's matrices: Add. -/
namespace Gus
open Go Go.RowKit Go.Proofs
set_option maxRecDepth 100000 in
set_option maxHeartbeats 4000000 in
theorem radd16_out (w : World) (v x : Value) (r c : Nat) (f : Nat → Nat → Rat) (q : Rat) (row col : Int) (hM : MatR w v r c f) (hx : FV w x q) (ho : ¬ (0 ≤ row ∧ row < r ∧ 0 ≤ col ∧ col < c)) (_hr : r ≤ 2048) (_hc : c ≤ 2048) :
    Calls Tryz.prog 7 #[v, .int .i64 row, .int .i64 col, x] w fun e w' => (∃ v', e = .returned (.tuple #[v', .bool false]) ∧ MatR w' v' r c f) ∧ Below w.heap.size w w' := by
  obtain ⟨ra, rk, rfl⟩ := hM.shape
  obtain ⟨a1, l1, k1, u2, rfl, hu1, hu2⟩ := hx
  obtain ⟨a2, k2, rfl, _⟩ := hu2
  have HM := Lib.hid hM
  generalize decide (q.num < 0) = b1 at *
  generalize (D.wd (q.den - 1)).length = l2 at *
  clear hM hu1
  have hcase : row < 0 ∨ (¬ row < 0 ∧ (r : Int) ≤ row) ∨ (¬ row < 0 ∧ ¬ (r : Int) ≤ row ∧ col < 0) ∨ (¬ row < 0 ∧ ¬ (r : Int) ≤ row ∧ ¬ col < 0 ∧ (c : Int) ≤ col) := by omega
  clear ho
  go_enter Tryz.func7, Tryz.ntmps7
  go_upto_region 1 with fail
  ((obtain ⟨X, hXX⟩ : ∃ z, z = w.heap.size := ⟨_, rfl⟩); (have bV0 := (((Bx.new_at w #[.int .i64 c, .slice ra r rk] 30 (n := X) (by simp [hXX])).alloc (.cells #[.bool b1, .slice a1 l1 k1, .slice a2 l2 k2] 45)).alloc (.cells #[.int .i64 0, .slice none 0 0] 30))); (have bV1 := ((Bx.new_at (w.alloc (.cells #[.int .i64 c, .slice ra r rk] 30)) #[.bool b1, .slice a1 l1 k1, .slice a2 l2 k2] 45 (n := X + 1) (by simp [hXX])).alloc (.cells #[.int .i64 0, .slice none 0 0] 30))); (have bV2 := (Bx.new_at ((w.alloc (.cells #[.int .i64 c, .slice ra r rk] 30)).alloc (.cells #[.bool b1, .slice a1 l1 k1, .slice a2 l2 k2] 45)) #[.int .i64 0, .slice none 0 0] 30 (n := X + 1 + 1) (by simp [hXX]))); (have hV := ((((In.self w).alloc (.cells #[.int .i64 c, .slice ra r rk] 30)).alloc (.cells #[.bool b1, .slice a1 l1 k1, .slice a2 l2 k2] 45)).alloc (.cells #[.int .i64 0, .slice none 0 0] 30))); (rw [← hXX] at hV ⊢); (have HX := Lib.hid hXX); (clear hXX); (generalize ((w.alloc (.cells #[.int .i64 c, .slice ra r rk] 30)).alloc (.cells #[.bool b1, .slice a1 l1 k1, .slice a2 l2 k2] 45)).alloc (.cells #[.int .i64 0, .slice none 0 0] 30) = V at *))
  have bq := bV2
  have hin := hV
  have x0 := bV0.c0
  have x1 := bV0.c1
  have xl := bV0.lt
  clear bV0 bV1 bV2 hV
  rcases hcase with h | ⟨h1, h2⟩ | ⟨h1, h2, h3⟩ | ⟨h1, h2, h3, h4⟩
  all_goals
    ((have q0 := bq.c0); (have q1 := bq.c1); (have f0 := bq.frozen 0); (have f1 := bq.frozen 1); (have ql := bq.lt); (have K1 := Lib.hid (((bq.set 0 (.int .i64 c)).set 1 (.slice ra r rk)))); (have K2 := Lib.hid (((hin.setCell (p := ⟨(X + 1 + 1), 0, none⟩) (by first | (simp; done) | (have := HX.out; simp; omega)) (.int .i64 c)).setCell (p := ⟨(X + 1 + 1), 1, none⟩) (by first | (simp; done) | (have := HX.out; simp; omega)) (.slice ra r rk)))); (clear bq hin); (go_wp2_with fail); (have k1 := K1.out); (have k2 := K2.out); (clear q0 q1 f0 f1 ql K1 K2); (generalize (V.setCell ⟨(X + 1 + 1), 0, none⟩ (.int .i64 c)).setCell ⟨(X + 1 + 1), 1, none⟩ (.slice ra r rk) = W5 at *); (have e0 : W5.cell? ⟨(X + 1 + 1), 0, none⟩ = some (.int .i64 c) := k1.cell 0); (have e1 : W5.cell? ⟨(X + 1 + 1), 1, none⟩ = some (.slice ra r rk) := k1.cell 1); (have hz := k2.bel); (refine bodyPost_ret (v := .tuple #[.agg #[.int .i64 c, .slice ra r rk], .bool false]) ?_ rfl ⟨⟨_, rfl, HM.out.call (by rw [← HX.out]; exact hz)⟩, by rw [← HX.out]; exact hz⟩); (simp [results, Tryz.results7, go_sem, e0, e1]))
set_option maxRecDepth 100000 in
set_option maxHeartbeats 8000000 in
theorem radd16_in (w : World) (v x : Value) (r c : Nat) (f : Nat → Nat → Rat) (q : Rat) (ri ci : Nat) (hM : MatR w v r c f) (hx : FV w x q) (hri : ri < r) (hci : ci < c) (hr : r ≤ 2048) (hc : c ≤ 2048) (hs1 : FS 1073741824 (f ri ci)) (hs2 : FS 1073741824 q) :
    Calls Tryz.prog 7 #[v, .int .i64 (ri : Nat), .int .i64 (ci : Nat), x] w fun e w' => (∃ v', e = .returned (.tuple #[v', .bool true]) ∧ MatR w' v' r c (setF f ri ci (f ri ci + q))) ∧ Below w.heap.size w w' := by
  obtain ⟨i0', hi0, hi1, hi2, hi3⟩ := info_parts info_refF
  obtain ⟨j0, hj0, hj1, hj2, hj3⟩ := info_parts info_refRow
  obtain ⟨ra, rk, rfl⟩ := hM.shape
  have hx0 := hx
  obtain ⟨a1, l1, k1, u2, rfl, hu1, hu2⟩ := hx
  obtain ⟨a2, k2, rfl, _⟩ := hu2
  obtain ⟨rb, roff, _, rfl, _⟩ := hM.at hri
  obtain ⟨F', hF⟩ : ∃ F', F' = setF f ri ci (f ri ci + q) := ⟨_, rfl⟩
  rw [← hF]
  have cad := fun W u1 u2 (h1 : FV W u1 (f ri ci)) (h2 : FV W u2 q) => rfadd_any W u1 u2 (f ri ci) q h1 h2 hs1 hs2
  unfold RFrac at cad
  obtain ⟨sq, hsq⟩ : ∃ s, s = f ri ci + q := ⟨_, rfl⟩
  rw [← hsq] at cad hF
  have HF := Lib.hid hF
  have HM := Lib.hid hM
  have HQ := Lib.hid hx0
  have hriI : (ri : Int) < r := by omega
  have hciI : (ci : Int) < c := by omega
  generalize decide (q.num < 0) = b1 at *
  generalize (D.wd (q.den - 1)).length = l2 at *
  clear hM hx0 hu1 hs1 hs2 hF hsq
  go_enter Tryz.func7, Tryz.ntmps7
  go_upto_region 1 with fail
  ((obtain ⟨X, hXX⟩ : ∃ z, z = w.heap.size := ⟨_, rfl⟩); (have bV0 := (((Bx.new_at w #[.int .i64 c, .slice (some ⟨rb, roff, none⟩) r rk] 30 (n := X) (by simp [hXX])).alloc (.cells #[.bool b1, .slice a1 l1 k1, .slice a2 l2 k2] 45)).alloc (.cells #[.int .i64 0, .slice none 0 0] 30))); (have bV1 := ((Bx.new_at (w.alloc (.cells #[.int .i64 c, .slice (some ⟨rb, roff, none⟩) r rk] 30)) #[.bool b1, .slice a1 l1 k1, .slice a2 l2 k2] 45 (n := X + 1) (by simp [hXX])).alloc (.cells #[.int .i64 0, .slice none 0 0] 30))); (have bV2 := (Bx.new_at ((w.alloc (.cells #[.int .i64 c, .slice (some ⟨rb, roff, none⟩) r rk] 30)).alloc (.cells #[.bool b1, .slice a1 l1 k1, .slice a2 l2 k2] 45)) #[.int .i64 0, .slice none 0 0] 30 (n := X + 1 + 1) (by simp [hXX]))); (have hV := ((((In.self w).alloc (.cells #[.int .i64 c, .slice (some ⟨rb, roff, none⟩) r rk] 30)).alloc (.cells #[.bool b1, .slice a1 l1 k1, .slice a2 l2 k2] 45)).alloc (.cells #[.int .i64 0, .slice none 0 0] 30))); (rw [← hXX] at hV ⊢); (have HX := Lib.hid hXX); (clear hXX); (generalize ((w.alloc (.cells #[.int .i64 c, .slice (some ⟨rb, roff, none⟩) r rk] 30)).alloc (.cells #[.bool b1, .slice a1 l1 k1, .slice a2 l2 k2] 45)).alloc (.cells #[.int .i64 0, .slice none 0 0] 30) = V at *))
  skip
  ((have x0 := bV0.c0); (have x1 := bV0.c1); (have xl := bV0.lt))
  go_upto_region 4 with fail
  skip
  ((obtain ⟨S, hS⟩ : ∃ z, z = V.heap.size := ⟨_, rfl⟩); (have bS := Bx.new_at V #[.int .i64 c, .slice none 0 0] 30 hS); (have hXS : X + 1 + 1 < S := by rw [hS]; exact bV2.lt); (clear x0 x1 xl); (replace hV := hV.alloc (.cells #[.int .i64 c, .slice none 0 0] 30)); (replace bV0 := bV0.alloc (.cells #[.int .i64 c, .slice none 0 0] 30)); (replace bV1 := bV1.alloc (.cells #[.int .i64 c, .slice none 0 0] 30)); (replace bV2 := bV2.alloc (.cells #[.int .i64 c, .slice none 0 0] 30)); (rw [← hS]); (clear hS); (generalize V.alloc (.cells #[.int .i64 c, .slice none 0 0] 30) = W1 at *))
  go_wp2_with fail
  go_loopw [11] (fun v11 wr => ∃ (i : Nat) (v : Value), i ≤ r ∧ v11 = .int .i64 i ∧ In X w wr ∧ Bx wr X 30 [.int .i64 c, .slice (some ⟨rb, roff, none⟩) r rk] ∧ Bx wr (X + 1) 45 [.bool b1, .slice a1 l1 k1, .slice a2 l2 k2] ∧ Bx wr (X + 1 + 1) 30 [.int .i64 0, .slice none 0 0] ∧ Bx wr S 30 [.int .i64 c, v] ∧ OutR wr (S + 1) v i c F') (fun v11 _ => r - (RowKit.intOf v11).toNat)
  case atStart => exact ⟨0, _, Nat.zero_le _, rfl, hV, bV0, bV1, bV2, bS, OutR.start _ _ _ _⟩
  case round =>
    rename World => wo
    clear hV bV0 bV1 bV2 bS
    obtain ⟨i, ov, hi, rfl, hin, b0, b1x, b2, bS, hout⟩ := hrel
    by_cases hir : i < r
    · have hirI : (i : Int) < r := by omega
      have hi0n : (0 : Int) ≤ i := by omega
      have hiw : IntKind.i64.wrap ((i : Int) + 1) = ((i + 1 : Nat) : Int) := IntWalk.i64_in _ (by omega)
      have hmo := HM.out.call (by rw [← HX.out]; exact hin.bel)
      have hqo := HQ.out.call (by rw [← HX.out]; exact hin.bel)
      have HMO := Lib.hid hmo
      have HQO := Lib.hid hqo
      have HIN := Lib.hid hin
      have HB0 := Lib.hid b0
      have HB1 := Lib.hid b1x
      have HB2 := Lib.hid b2
      have HBS := Lib.hid bS
      have HOUT := Lib.hid hout
      have x0 := b0.c0
      have x1 := b0.c1
      have xl := b0.lt
      clear hmo hqo hin b1x b2 bS hout b0
      go_wp2_with fail
      clear x0 x1 xl
      go_loopw [12, 13] (fun v12 v13 wq => ∃ (k : Nat) (lv : Value), k ≤ c ∧ v12 = lv ∧ v13 = .int .i64 k ∧ In wo.heap.size wo wq ∧ ROwn wq wo.heap.size lv k (F' i)) (fun _ v13 _ => c - (RowKit.intOf v13).toNat)
      case atStart => exact ⟨0, _, Nat.zero_le _, rfl, rfl, In.self _, ROwn.start _ _ _⟩
      case round =>
        rename World => wq
        obtain ⟨k, lv, hk, hlv, rfl, hinq, hl⟩ := hrel
        obtain rfl := hlv.symm
        have b0 := HB0.out.call hinq.bel
        have b1x := HB1.out.call hinq.bel
        have x0 := b0.c0
        have x1 := b0.c1
        have xl := b0.lt
        by_cases hkc : k < c
        · have hkI : (k : Int) < c := by omega
          have hk0n : (0 : Int) ≤ k := by omega
          have hkw : IntKind.i64.wrap ((k : Int) + 1) = ((k + 1 : Nat) : Int) := IntWalk.i64_in _ (by omega)
          obtain ⟨b', off', rx, he, hrb, hcell, hrow⟩ := (HMO.out.call hinq.bel).at hir
          simp only [Option.some.injEq, Addr.mk.injEq, and_true] at he
          obtain ⟨rfl, rfl⟩ := he
          obtain ⟨cb, coff, ccap, bb, e1, l3, k3, e2, l4, k4, rfl, hcb, d0, d1, d2, hfv⟩ := hrow.at hkc
          have hqx := HQO.out.call hinq.bel
          clear hrow
          go_upto_region 12 with fail
          skip
          skip
          ((obtain ⟨Y, hY⟩ : ∃ z, z = wq.heap.size := ⟨_, rfl⟩); (have bY := Bx.new_at wq #[.bool bb, .slice e1 l3 k3, .slice e2 l4 k4] 45 hY); (have hlY : lv.ownBlock ≠ some Y := hl.ne (by rw [hY]; exact Nat.le_refl _); have hYlo : wo.heap.size ≤ Y := by rw [hY]; exact hinq.siz); (replace hinq := hinq.alloc (.cells #[.bool bb, .slice e1 l3 k3, .slice e2 l4 k4] 45)); (replace b0 := b0.alloc (.cells #[.bool bb, .slice e1 l3 k3, .slice e2 l4 k4] 45)); (replace b1x := b1x.alloc (.cells #[.bool bb, .slice e1 l3 k3, .slice e2 l4 k4] 45)); (replace hl := hl.call ((Below.refl _ _).alloc (Nat.le_refl _) (.cells #[.bool bb, .slice e1 l3 k3, .slice e2 l4 k4] 45))); (replace hfv := hfv.call ((Below.refl _ _).alloc (Nat.le_refl _) (.cells #[.bool bb, .slice e1 l3 k3, .slice e2 l4 k4] 45))); (replace hqx := hqx.call ((Below.refl _ _).alloc (Nat.le_refl _) (.cells #[.bool bb, .slice e1 l3 k3, .slice e2 l4 k4] 45))); (rw [← hY]); (clear hY); (generalize wq.alloc (.cells #[.bool bb, .slice e1 l3 k3, .slice e2 l4 k4] 45) = W2 at *))
          clear x0 x1 xl d0 d1 d2 hcell hrb hcb
          by_cases hik : i = ri ∧ k = ci
          · obtain ⟨rfl, rfl⟩ := hik
            ((have y0 := bY.c0); (have y1 := bY.c1); (have y2 := bY.c2); (have yl := bY.lt))
            ((have z0 := b1x.c0); (have z1 := b1x.c1); (have z2 := b1x.c2); (have zl := b1x.lt))
            skip
            ((go_wp2_with fail); (((with_reducible refine (cad _ _ _ hfv hqx).mono ?_))); (rintro e W3 ⟨⟨v5, rfl, hf5⟩, hb⟩); (clear y0 y1 y2 yl z0 z1 z2 zl hfv hqx); (replace hinq := hinq.call hb); (replace hl := hl.call hb); (replace b0 := b0.call hb); (replace b1x := b1x.call hb); (replace bY := bY.call hb); (clear hb))
            have hFe : sq = F' i k := by rw [HF.out]; unfold setF; rw [if_pos ⟨rfl, rfl⟩]
            rw [hFe] at hf5
            obtain ⟨g1, m1, n1, u9, rfl, hn1, hn2⟩ := id hf5
            obtain ⟨g2, n2, rfl, _⟩ := hn2
            generalize decide ((F' i k).num < 0) = s9 at *
            obtain ⟨m2, hm2⟩ : ∃ m, m = (D.wd ((F' i k).den - 1)).length := ⟨_, rfl⟩
            rw [← hm2] at hf5 ⊢
            clear hm2 hn1 hFe
            have y0 := bY.c0
            have y1 := bY.c1
            have y2 := bY.c2
            have yf0 := bY.frozen 0
            have yf1 := bY.frozen 1
            have yf2 := bY.frozen 2
            have yl := bY.lt
            have KL := Lib.hid (((hl.put bY hlY 0 (.bool s9)).put (bY.set 0 (.bool s9)) hlY 1 (.slice g1 m1 n1)).put ((bY.set 0 (.bool s9)).set 1 (.slice g1 m1 n1)) hlY 2 (.slice g2 m2 n2))
            have KF := Lib.hid (((hf5.put bY (by decide) 0 (.bool s9)).put (bY.set 0 (.bool s9)) (by decide) 1 (.slice g1 m1 n1)).put ((bY.set 0 (.bool s9)).set 1 (.slice g1 m1 n1)) (by decide) 2 (.slice g2 m2 n2))
            have KY := Lib.hid (((bY.set 0 (.bool s9)).set 1 (.slice g1 m1 n1)).set 2 (.slice g2 m2 n2))
            have KI := Lib.hid (((hinq.setCell (p := ⟨Y, 0, none⟩) hYlo (.bool s9)).setCell (p := ⟨Y, 1, none⟩) hYlo (.slice g1 m1 n1)).setCell (p := ⟨Y, 2, none⟩) hYlo (.slice g2 m2 n2))
            clear hl hf5 bY hinq b0 b1x
            go_upto_region 14 with fail
            have hl := KL.out
            have hf5 := KF.out
            have bY := KY.out
            have hinq := KI.out
            simp only [List.set] at bY
            clear KL KF KY KI y0 y1 y2 yf0 yf1 yf2 yl
            generalize ((W3.setCell ⟨Y, 0, none⟩ (.bool s9)).setCell ⟨Y, 1, none⟩ (.slice g1 m1 n1)).setCell ⟨Y, 2, none⟩ (.slice g2 m2 n2) = W4 at *
            have y0 := bY.c0
            have y1 := bY.c1
            have y2 := bY.c2
            have yl := bY.lt
            obtain ⟨lvs, hlv1, hlv2, hlv3⟩ := hl
            have HLV2 := Lib.hid hlv2
            have HLV3 := Lib.hid hlv3
            have HFY := Lib.hid hf5
            have HIQ := Lib.hid hinq
            have hlt := hlv2.lt
            have HLT := Lib.hid hlt
            have hsz := hinq.siz
            have bl2 : lvs.length ≤ 2048 := by omega
            clear hlv2 hlv3 hf5 hinq hlt
            go_wp2_with (at_builtin; go_loud (refine wpList_append_own _ rfl (.tmp 70) (.tmp 72) 84 rfl wo.heap.size 45 i0' (.agg #[.bool false, .slice none 0 0, .slice none 0 0]) 3 56 Tryz.underlying84 hi0 hi1 hi2 hi3 rfl (by decide) lv k (lvs.flatMap v3c) rfl (HLV2.out.alloc _) ⟨W4.heap.size, 0, none⟩ 1 1 [.bool s9, .slice g1 m1 n1, .slice g2 m2 n2] rfl rfl ?px1 ?px2 ?px3 ?px4 ?px5 ?_))
            try (case px1 => (intro j u hj; rw [Addr.add_lit, Nat.zero_add, (Bx.new_at W4 #[.bool s9, .slice g1 m1 n1, .slice g2 m2 n2] 45 rfl).cell j]; exact hj))
            try (case px2 => (first | rfl | exact ⟨rfl, rfl, rfl⟩ | (intro u hu; simp only [List.mem_cons, List.not_mem_nil, or_false] at hu; rcases hu with h | h | h <;> (rw [h]; rfl))))
            try (case px3 => (simp only [maxLen]; omega))
            try (case px4 => (omega))
            try (case px5 => (first | omega | (rw [World.size_alloc]; omega)))
            intro v' w5 hown5 hgr _
            have hal : Below W4.heap.size W4 (W4.alloc (.cells #[.bool s9, .slice g1 m1 n1, .slice g2 m2 n2] 45)) := (Below.refl _ _).alloc (Nat.le_refl _) _
            have hl5 : ROwn w5 wo.heap.size v' (k + 1) (F' i) := ROwn.snoc (x := ((.bool s9), (.slice g1 m1 n1), (.slice g2 m2 n2))) hlv1 (ownsRow_bel HLV2.out hal) (fun j hj => (HLV3.out j hj).call hal) (HFY.out.call hal) hown5 hgr
            have hin5 : In wo.heap.size wo w5 := ⟨(HIQ.out.call hal).bel.grown hgr (HIQ.out.call hal).siz (fun k h => (HLT.out k h).1), Nat.le_trans (HIQ.out.call hal).siz hgr.size⟩
            have K1 := Lib.hid hl5
            have K2 := Lib.hid hin5
            obtain ⟨g9, c9, rfl⟩ : ∃ g9 c9, v' = .slice (some ⟨g9, 0, none⟩) (k + 1) c9 := by exact ownsRow_cons hown5
            clear hown5 hgr hl5 hin5 hal HLV2 HLV3 HFY HIQ HLT hsz y0 y1 y2 yl bY
            go_wp2_with fail
            exact ⟨⟨k + 1, _, by omega, rfl, by go_num, K2.out, K1.out⟩, by simp [RowKit.intOf]; omega⟩
          · have hFe : f i k = F' i k := by rw [HF.out]; unfold setF; rw [if_neg hik]
            rw [hFe] at hfv
            clear hFe b0 b1x hqx
            by_cases hi1 : i = ri
            · have hk1 : ¬ k = ci := fun h => hik ⟨hi1, h⟩
              have hk1I : ((k : Int) == (ci : Int)) = false := by rw [beq_eq_false_iff_ne]; omega
              have hi1I : ((i : Int) == (ri : Int)) = true := by rw [beq_iff_eq]; omega
              clear hik hi1 hk1
              go_upto_region 14 with fail
              have y0 := bY.c0
              have y1 := bY.c1
              have y2 := bY.c2
              have yl := bY.lt
              obtain ⟨lvs, hlv1, hlv2, hlv3⟩ := hl
              have HLV2 := Lib.hid hlv2
              have HLV3 := Lib.hid hlv3
              have HFY := Lib.hid hfv
              have HIQ := Lib.hid hinq
              have hlt := hlv2.lt
              have HLT := Lib.hid hlt
              have hsz := hinq.siz
              have bl2 : lvs.length ≤ 2048 := by omega
              clear hlv2 hlv3 hfv hinq hlt
              go_wp2_with (at_builtin; go_loud (refine wpList_append_own _ rfl (.tmp 70) (.tmp 72) 84 rfl wo.heap.size 45 i0' (.agg #[.bool false, .slice none 0 0, .slice none 0 0]) 3 56 Tryz.underlying84 hi0 hi1 hi2 hi3 rfl (by decide) lv k (lvs.flatMap v3c) rfl (HLV2.out.alloc _) ⟨W2.heap.size, 0, none⟩ 1 1 [.bool bb, .slice e1 l3 k3, .slice e2 l4 k4] rfl rfl ?qx1 ?qx2 ?qx3 ?qx4 ?qx5 ?_))
              try (case qx1 => (intro j u hj; rw [Addr.add_lit, Nat.zero_add, (Bx.new_at W2 #[.bool bb, .slice e1 l3 k3, .slice e2 l4 k4] 45 rfl).cell j]; exact hj))
              try (case qx2 => (first | rfl | exact ⟨rfl, rfl, rfl⟩ | (intro u hu; simp only [List.mem_cons, List.not_mem_nil, or_false] at hu; rcases hu with h | h | h <;> (rw [h]; rfl))))
              try (case qx3 => (simp only [maxLen]; omega))
              try (case qx4 => (omega))
              try (case qx5 => (first | omega | (rw [World.size_alloc]; omega)))
              intro v' w5 hown5 hgr _
              have hal : Below W2.heap.size W2 (W2.alloc (.cells #[.bool bb, .slice e1 l3 k3, .slice e2 l4 k4] 45)) := (Below.refl _ _).alloc (Nat.le_refl _) _
              have hl5 : ROwn w5 wo.heap.size v' (k + 1) (F' i) := ROwn.snoc (x := ((.bool bb), (.slice e1 l3 k3), (.slice e2 l4 k4))) hlv1 (ownsRow_bel HLV2.out hal) (fun j hj => (HLV3.out j hj).call hal) (HFY.out.call hal) hown5 hgr
              have hin5 : In wo.heap.size wo w5 := ⟨(HIQ.out.call hal).bel.grown hgr (HIQ.out.call hal).siz (fun k h => (HLT.out k h).1), Nat.le_trans (HIQ.out.call hal).siz hgr.size⟩
              have K1 := Lib.hid hl5
              have K2 := Lib.hid hin5
              obtain ⟨g9, c9, rfl⟩ : ∃ g9 c9, v' = .slice (some ⟨g9, 0, none⟩) (k + 1) c9 := by exact ownsRow_cons hown5
              clear hown5 hgr hl5 hin5 hal HLV2 HLV3 HFY HIQ HLT hsz y0 y1 y2 yl bY
              go_wp2_with fail
              exact ⟨⟨k + 1, _, by omega, rfl, by go_num, K2.out, K1.out⟩, by simp [RowKit.intOf]; omega⟩
            · have hi1I : ((i : Int) == (ri : Int)) = false := by rw [beq_eq_false_iff_ne]; omega
              clear hik hi1
              go_upto_region 14 with fail
              have y0 := bY.c0
              have y1 := bY.c1
              have y2 := bY.c2
              have yl := bY.lt
              obtain ⟨lvs, hlv1, hlv2, hlv3⟩ := hl
              have HLV2 := Lib.hid hlv2
              have HLV3 := Lib.hid hlv3
              have HFY := Lib.hid hfv
              have HIQ := Lib.hid hinq
              have hlt := hlv2.lt
              have HLT := Lib.hid hlt
              have hsz := hinq.siz
              have bl2 : lvs.length ≤ 2048 := by omega
              clear hlv2 hlv3 hfv hinq hlt
              go_wp2_with (at_builtin; go_loud (refine wpList_append_own _ rfl (.tmp 70) (.tmp 72) 84 rfl wo.heap.size 45 i0' (.agg #[.bool false, .slice none 0 0, .slice none 0 0]) 3 56 Tryz.underlying84 hi0 hi1 hi2 hi3 rfl (by decide) lv k (lvs.flatMap v3c) rfl (HLV2.out.alloc _) ⟨W2.heap.size, 0, none⟩ 1 1 [.bool bb, .slice e1 l3 k3, .slice e2 l4 k4] rfl rfl ?rx1 ?rx2 ?rx3 ?rx4 ?rx5 ?_))
              try (case rx1 => (intro j u hj; rw [Addr.add_lit, Nat.zero_add, (Bx.new_at W2 #[.bool bb, .slice e1 l3 k3, .slice e2 l4 k4] 45 rfl).cell j]; exact hj))
              try (case rx2 => (first | rfl | exact ⟨rfl, rfl, rfl⟩ | (intro u hu; simp only [List.mem_cons, List.not_mem_nil, or_false] at hu; rcases hu with h | h | h <;> (rw [h]; rfl))))
              try (case rx3 => (simp only [maxLen]; omega))
              try (case rx4 => (omega))
              try (case rx5 => (first | omega | (rw [World.size_alloc]; omega)))
              intro v' w5 hown5 hgr _
              have hal : Below W2.heap.size W2 (W2.alloc (.cells #[.bool bb, .slice e1 l3 k3, .slice e2 l4 k4] 45)) := (Below.refl _ _).alloc (Nat.le_refl _) _
              have hl5 : ROwn w5 wo.heap.size v' (k + 1) (F' i) := ROwn.snoc (x := ((.bool bb), (.slice e1 l3 k3), (.slice e2 l4 k4))) hlv1 (ownsRow_bel HLV2.out hal) (fun j hj => (HLV3.out j hj).call hal) (HFY.out.call hal) hown5 hgr
              have hin5 : In wo.heap.size wo w5 := ⟨(HIQ.out.call hal).bel.grown hgr (HIQ.out.call hal).siz (fun k h => (HLT.out k h).1), Nat.le_trans (HIQ.out.call hal).siz hgr.size⟩
              have K1 := Lib.hid hl5
              have K2 := Lib.hid hin5
              obtain ⟨g9, c9, rfl⟩ : ∃ g9 c9, v' = .slice (some ⟨g9, 0, none⟩) (k + 1) c9 := by exact ownsRow_cons hown5
              clear hown5 hgr hl5 hin5 hal HLV2 HLV3 HFY HIQ HLT hsz y0 y1 y2 yl bY
              go_wp2_with fail
              exact ⟨⟨k + 1, _, by omega, rfl, by go_num, K2.out, K1.out⟩, by simp [RowKit.intOf]; omega⟩
        · obtain rfl : k = c := by omega
          have hkI : ¬ (k : Int) < k := by omega
          obtain ⟨ova, ovc, rfl⟩ := HOUT.out.shape
          have hrow := hl.row
          obtain ⟨a9, c9, rfl⟩ : ∃ a c, lv = .slice a k c := by obtain ⟨a, c, h, _⟩ := hrow; exact ⟨a, c, h⟩
          obtain ⟨ovs, ho1, ho2⟩ := HOUT.out.call hinq.bel
          have bSq := HBS.out.call hinq.bel
          have hxq := HIN.out.call hinq.bel
          have s0 := bSq.c0
          have s1 := bSq.c1
          have sl := bSq.lt
          have HO1 := Lib.hid ho1
          have HO2 := Lib.hid ho2
          have HROW := Lib.hid hrow
          have HI := Lib.hid hxq
          have HS := Lib.hid bSq
          have B0 := Lib.hid b0
          have B1 := Lib.hid b1x
          have B2 := Lib.hid (HB2.out.call hinq.bel)
          have hvlt := ho1.lt
          have HVLT := Lib.hid hvlt
          clear ho1 ho2 hrow hxq bSq b0 b1x hvlt hl hinq
          go_wp2_with (at_builtin; go_loud (refine wpList_append_own _ rfl (.tmp 75) (.tmp 77) 28 rfl (S + 1) 84 j0 (.slice none 0 0) 1 24 Tryz.underlying28 hj0 hj1 hj2 hj3 rfl (by decide) (.slice ova i ovc) i ovs rfl (HO1.out.alloc _) ⟨wq.heap.size, 0, none⟩ 1 1 [.slice a9 k c9] rfl rfl ?sx1 ?sx2 ?sx3 ?sx4 ?sx5 ?_))
          try (case sx1 => (intro j u hj; rw [Addr.add_lit, Nat.zero_add, (Bx.new_at wq #[.slice a9 k c9] 84 rfl).cell j]; exact hj))
          try (case sx2 => ((first | rfl | (intro u hu; simp only [List.mem_cons, List.not_mem_nil, or_false] at hu; subst hu; rfl))))
          try (case sx3 => (simp only [maxLen]; omega))
          try (case sx4 => (omega))
          try (case sx5 => (first | omega | (rw [World.size_alloc]; omega)))
          intro v' w5 hown5 hgr _
          have hal : Below wq.heap.size wq (wq.alloc (.cells #[.slice a9 k c9] 84)) := (Below.refl _ _).alloc (Nat.le_refl _) _
          have hne := fun b (h : (Value.slice ova i ovc).ownBlock = some b) => (HVLT.out b h).1
          have hout5 : OutR w5 (S + 1) v' (i + 1) k F' := OutR.snoc (ownsRow_bel HO1.out hal) (fun j hj => (HO2.out j hj).call hal) (HROW.out.call hal) hown5 hgr
          have hin5 : In X w w5 := ⟨(HI.out.call hal).bel.grown hgr (HI.out.call hal).siz (fun b h => by have := hne b h; omega), Nat.le_trans (HI.out.call hal).siz hgr.size⟩
          have bS5 := (HS.out.call hal).grown hgr (fun h => by have := hne _ h.symm; omega)
          have b05 := (B0.out.call hal).grown hgr (fun h => by have := hne _ h.symm; omega)
          have b15 := (B1.out.call hal).grown hgr (fun h => by have := hne _ h.symm; omega)
          have b25 := (B2.out.call hal).grown hgr (fun h => by have := hne _ h.symm; omega)
          obtain ⟨g9, cc9, rfl⟩ : ∃ g9 c9, v' = .slice (some ⟨g9, 0, none⟩) (i + 1) c9 := by exact ownsRow_cons hown5
          have K1 := Lib.hid (hout5.set bS5 (j := 1) (x := .slice (some ⟨g9, 0, none⟩) (i + 1) cc9))
          have K2 := Lib.hid (hin5.setCell (p := ⟨S, 1, none⟩) (by simp; omega) (.slice (some ⟨g9, 0, none⟩) (i + 1) cc9))
          have K3 := Lib.hid (Bx.other (a := ⟨S, 1, none⟩) b05 (by simp; omega) (.slice (some ⟨g9, 0, none⟩) (i + 1) cc9))
          have K4 := Lib.hid (Bx.other (a := ⟨S, 1, none⟩) b15 (by simp; omega) (.slice (some ⟨g9, 0, none⟩) (i + 1) cc9))
          have K5 := Lib.hid (Bx.other (a := ⟨S, 1, none⟩) b25 (by simp; omega) (.slice (some ⟨g9, 0, none⟩) (i + 1) cc9))
          have K6 := Lib.hid (bS5.set 1 (.slice (some ⟨g9, 0, none⟩) (i + 1) cc9))
          have q1 := bS5.c1
          have qf := bS5.frozen 1
          have ql := bS5.lt
          clear hown5 hgr hal hne hout5 hin5 bS5 b05 b15 b25 s0 s1 sl x0 x1 xl HO1 HO2 HROW HI HS B0 B1 B2 HVLT
          go_wp2_with fail
          exact ⟨⟨i + 1, _, by omega, by go_num, K2.out, K3.out, K4.out, K5.out, K6.out, K1.out⟩, by simp [RowKit.intOf]; omega⟩
    · obtain rfl : i = r := by omega
      have hirI : ¬ (i : Int) < i := by omega
      obtain ⟨va, vc, rfl⟩ := hout.shape
      have HMF := Lib.hid hout.mat
      have x0 := b0.c0
      have x1 := b0.c1
      have xl := b0.lt
      have s0 := bS.c0
      have s1 := bS.c1
      have sl := bS.lt
      have q0 := b2.c0
      have q1 := b2.c1
      have qf0 := b2.frozen 0
      have qf1 := b2.frozen 1
      have ql := b2.lt
      have K1 := Lib.hid ((HMF.out.keepT (.of_set (j := 0) b2 (by unfold tyM tyR; decide) (.int .i64 (c : Nat)))).keepT (.of_set (j := 1) (b2.set 0 (.int .i64 (c : Nat))) (by unfold tyM tyR; decide) (.slice va i vc)))
      have K2 := Lib.hid ((hin.setCell (p := ⟨X + 1 + 1, 0, none⟩) (by simp; omega) (.int .i64 (c : Nat))).setCell (p := ⟨X + 1 + 1, 1, none⟩) (by simp; omega) (.slice va i vc))
      have K3 := Lib.hid ((b2.set 0 (.int .i64 (c : Nat))).set 1 (.slice va i vc))
      clear hout hin b0 b1x b2 bS HMF
      go_wp2_with fail
      have k3 := K3.out
      have e0 := k3.c0
      have e1 := k3.c1
      clear x0 x1 s0 s1 q0 q1 qf0 qf1
      (try simp only [List.set] at e0 e1)
      exact bodyPost_ret (v := .tuple #[.agg #[.int .i64 c, .slice va i vc], .bool true]) (by simp [results, Tryz.results7, go_sem, e0, e1]) rfl ⟨⟨_, rfl, K1.out⟩, by rw [← HX.out]; exact K2.out.bel⟩
end Gus
end
