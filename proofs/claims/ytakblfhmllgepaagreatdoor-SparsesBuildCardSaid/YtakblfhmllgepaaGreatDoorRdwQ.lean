/- Proved here: parts of the proof: Rdw Rdx Rdy Rdz Ree. Conditions: those that each theorem states. -/
import Derived.Test.YtakblfhmllgepaaGreatDoorRduQ
import Derived.Test.YtakblfhmllgepaaGreatDoorFracDQ
import Derived.Test.YtakblfhmllgepaaGreatDoorRdjQ
import Derived.Test.YtakblfhmllgepaaGreatDoorPrtBQ
section
/- The reference's fractions: Div, Of. -/
namespace Gus
open Go Go.RowKit Go.Proofs
set_option maxRecDepth 100000 in
set_option maxHeartbeats 4000000 in
theorem rfdiv_zero (w : World) (v1 v2 : Value) (x y : Rat) (h0 : y.num = 0) (h1 : FV w v1 x) (h2 : FV w v2 y) :
    Calls Tryz.prog 59 #[v1, v2] w fun e w' => RFrac w (x / y) e w' := by
  have hy : y = 0 := Rat.num_eq_zero.1 h0
  have hq : x / y = 0 := by rw [hy, Rat.div_def, Rat.inv_zero, Rat.mul_zero]
  have hw0 : (D.wd y.num.natAbs).length ≤ 4611686018427387904 := by rw [h0]; exact Nat.le_trans (D.wd_length (n := 0) (k := 1) (by decide)) (by decide)
  have cS := fun W (hb : Below w.heap.size w W) => rfsign_any W v2 y (h2.call hb) hw0
  have hs : y.num.sign = 0 := by rw [h0]; rfl
  rw [hs] at cS
  rw [hq]
  obtain ⟨a1, l1, k1, u1, rfl, hu1, hm1'⟩ := h1
  obtain ⟨a2, l2, k2, u2, rfl, hu2, hm2'⟩ := h2
  obtain ⟨c1, d1, rfl, _⟩ := id hm1'
  obtain ⟨c2, d2, rfl, _⟩ := id hm2'
  clear hw0 hs hq hu1 hu2 hm1' hm2' h0 hy
  unfold RFrac
  obtain ⟨base, hbase⟩ : ∃ b, b = w.heap.size := ⟨_, rfl⟩
  rw [← hbase] at cS ⊢
  have HB := Lib.hid hbase
  clear hbase
  generalize decide (x.num < 0) = b1 at *
  generalize decide (y.num < 0) = b2 at *
  generalize (D.wd (x.den - 1)).length = m1 at *
  generalize (D.wd (y.den - 1)).length = m2 at *
  go_enter Tryz.func59, Tryz.ntmps59
  go_upto_region 1 with fail
  ((obtain ⟨X, hXX⟩ : ∃ z, z = w.heap.size := ⟨_, rfl⟩); (have bV0 := (((Bx.new_at w #[.bool b1, .slice a1 l1 k1, .slice c1 m1 d1] 45 (n := X) (by simp [hXX])).alloc (.cells #[.bool b2, .slice a2 l2 k2, .slice c2 m2 d2] 45)).alloc (.cells #[.bool false, .slice none 0 0, .slice none 0 0] 45))); (have bV1 := ((Bx.new_at (w.alloc (.cells #[.bool b1, .slice a1 l1 k1, .slice c1 m1 d1] 45)) #[.bool b2, .slice a2 l2 k2, .slice c2 m2 d2] 45 (n := X + 1) (by simp [hXX])).alloc (.cells #[.bool false, .slice none 0 0, .slice none 0 0] 45))); (have bV2 := (Bx.new_at ((w.alloc (.cells #[.bool b1, .slice a1 l1 k1, .slice c1 m1 d1] 45)).alloc (.cells #[.bool b2, .slice a2 l2 k2, .slice c2 m2 d2] 45)) #[.bool false, .slice none 0 0, .slice none 0 0] 45 (n := X + 1 + 1) (by simp [hXX]))); (have hV := ((((In.self w).alloc (.cells #[.bool b1, .slice a1 l1 k1, .slice c1 m1 d1] 45)).alloc (.cells #[.bool b2, .slice a2 l2 k2, .slice c2 m2 d2] 45)).alloc (.cells #[.bool false, .slice none 0 0, .slice none 0 0] 45))); (rw [← hXX] at hV ⊢); (have HX := Lib.hid hXX); (clear hXX); (generalize ((w.alloc (.cells #[.bool b1, .slice a1 l1 k1, .slice c1 m1 d1] 45)).alloc (.cells #[.bool b2, .slice a2 l2 k2, .slice c2 m2 d2] 45)).alloc (.cells #[.bool false, .slice none 0 0, .slice none 0 0] 45) = V at *))
  have hin : In base w V := by rw [HB.out, ← HX.out]; exact hV
  have hZb : base ≤ X + 1 + 1 := by rw [HB.out, ← HX.out]; omega
  clear hV HX
  skip
  ((have q0 := bV1.c0); (have q1 := bV1.c1); (have q2 := bV1.c2); (have ql := bV1.lt))
  ((go_wp2_with fail); (((with_reducible refine (cS _ hin.bel).mono ?_))); (rintro e wc1 ⟨rfl, hb⟩); (clear q0 q1 q2 ql cS); (replace hin := hin.call hb); (replace bV0 := bV0.call hb); (replace bV1 := bV1.call hb); (replace bV2 := bV2.call hb); (clear hb))
  generalize X + 1 + 1 = Z at *
  have bZ := bV2
  clear bV0 bV1 bV2
  obtain ⟨sg, hsg⟩ : ∃ s, s = decide ((0 : Rat).num < 0) := ⟨_, rfl⟩
  have hsf : sg = false := by rw [hsg]; rfl
  subst hsf
  clear hsg
  have zh := NV.zero wc1
  have hm := NV.zero wc1
  ((have p0 := bZ.c0); (have p1 := bZ.c1); (have p2 := bZ.c2); (have pf0 := bZ.frozen 0); (have pf1 := bZ.frozen 1); (have pf2 := bZ.frozen 2); (have pl := bZ.lt); (have KV := Lib.hid (((zh.put bZ.c0 (by intro z; simp) (.bool (false))).put (bZ.set 0 (.bool (false))).c1 (by intro z; simp) (.slice (none) (0) (0))).put ((bZ.set 0 (.bool (false))).set 1 (.slice (none) (0) (0))).c2 (by intro z; simp) (.slice (none) (0) (0)))); (have KM := Lib.hid (((hm.put bZ.c0 (by intro z; simp) (.bool (false))).put (bZ.set 0 (.bool (false))).c1 (by intro z; simp) (.slice (none) (0) (0))).put ((bZ.set 0 (.bool (false))).set 1 (.slice (none) (0) (0))).c2 (by intro z; simp) (.slice (none) (0) (0)))); (have KI := Lib.hid (((hin.setCell (p := ⟨Z, 0, none⟩) hZb (.bool (false))).setCell (p := ⟨Z, 1, none⟩) hZb (.slice (none) (0) (0))).setCell (p := ⟨Z, 2, none⟩) hZb (.slice (none) (0) (0)))); (have KS := Lib.hid (((bZ.set 0 (.bool (false))).set 1 (.slice (none) (0) (0))).set 2 (.slice (none) (0) (0)))); (clear bZ zh hm hin); (go_wp2_with fail); (clear p0 p1 p2 pf0 pf1 pf2 pl); (have KB := KS.out); (simp only [List.set] at KB); (have p0 := KB.c0); (have p1 := KB.c1); (have p2 := KB.c2); (exact bodyPost_ret (v := .agg #[(.bool (false)), (.slice (none) (0) (0)), (.slice (none) (0) (0))]) (by simp [results, Tryz.results59, go_sem, p0, p1, p2]) rfl ⟨⟨_, rfl, ⟨none, 0, 0, .slice none 0 0, rfl, KV.out, KM.out⟩⟩, KI.out.bel⟩))
theorem rfdiv_any (w : World) (v1 v2 : Value) (x y : Rat) (h1 : FV w v1 x) (h2 : FV w v2 y) (hs1 : FS 1073741824 x) (hs2 : FS 1073741824 y) :
    Calls Tryz.prog 59 #[v1, v2] w fun e w' => RFrac w (x / y) e w' := by
  by_cases h0 : y.num = 0
  · exact rfdiv_zero w v1 v2 x y h0 h1 h2
  · exact rfdiv_pos w v1 v2 x y h0 h1 h2 hs1 hs2
end Gus
end
section
/- The reference's fractions: Of. -/
namespace Gus
open Go Go.RowKit Go.Proofs
theorem int_fs (x : Int) (h0 : -9223372036854775808 ≤ x) (h1 : x < 9223372036854775808) : FS 1073741824 (x : Rat) := by
  refine ⟨?_, ?_⟩
  · rw [Rat.num_intCast]; exact Nat.le_trans (D.wd_length (k := 5) (by simp only [Nat.reducePow]; omega)) (by decide)
  · rw [Rat.den_intCast]; exact Nat.le_trans (D.wd_length (n := 1) (k := 1) (by decide)) (by decide)
set_option maxRecDepth 100000 in
set_option maxHeartbeats 4000000 in
theorem rfof_any (x y : Int) (hx0 : -9223372036854775808 ≤ x) (hx1 : x < 9223372036854775808) (hy0 : -9223372036854775808 ≤ y) (hy1 : y < 9223372036854775808) (w : World) :
    Calls Tryz.prog 27 #[.int .i64 x, .int .i64 y] w fun e w' => RFrac w ((x : Rat) / (y : Rat)) e w' := by
  have c1 := rfint_any x hx0 hx1
  have c2 := rfint_any y hy0 hy1
  have c3 := fun W u1 u2 (h1 : FV W u1 (x : Rat)) (h2 : FV W u2 (y : Rat)) => rfdiv_any W u1 u2 _ _ h1 h2 (int_fs x hx0 hx1) (int_fs y hy0 hy1)
  unfold RFrac at c1 c2 c3 ⊢
  generalize hq : (x : Rat) / (y : Rat) = q at *
  have HQ := Lib.hid hq
  clear hq
  obtain ⟨base, hbase⟩ : ∃ b, b = w.heap.size := ⟨_, rfl⟩
  have hin : In base w w := by rw [hbase]; exact In.self w
  rw [← hbase]
  have HB := Lib.hid hbase
  clear hbase hx0 hx1 hy0 hy1
  go_enter Tryz.func27, Tryz.ntmps27
  go_upto_region 1 with fail
  skip
  ((obtain ⟨Z, hZ⟩ : ∃ z, z = w.heap.size := ⟨_, rfl⟩); (have bZ := Bx.new_at w #[.bool false, .slice none 0 0, .slice none 0 0] 45 hZ); (have hZb : base ≤ Z := by have := HB.out; omega); (replace hin := hin.alloc (.cells #[.bool false, .slice none 0 0, .slice none 0 0] 45)); (rw [← hZ]); (clear hZ); (generalize w.alloc (.cells #[.bool false, .slice none 0 0, .slice none 0 0] 45) = W1 at *))
  ((go_wp2_with fail); (((with_reducible refine (c1 _).mono ?_))); (rintro e wc2 ⟨⟨v1, rfl, hv1⟩, hb⟩); (clear c1); (replace hin := hin.call hb); (replace bZ := bZ.call hb); (clear hb))
  ((go_wp2_with fail); (((with_reducible refine (c2 _).mono ?_))); (rintro e wc3 ⟨⟨v2, rfl, hv2⟩, hb⟩); (clear c2); (replace hin := hin.call hb); (replace hv1 := hv1.call hb); (replace bZ := bZ.call hb); (clear hb))
  ((go_wp2_with fail); (((with_reducible refine (c3 _ _ _ hv1 hv2).mono ?_))); (rintro e wc4 ⟨⟨v3, rfl, hz⟩, hb⟩); (clear c3); (replace hin := hin.call hb); (replace hv1 := hv1.call hb); (replace hv2 := hv2.call hb); (replace bZ := bZ.call hb); (clear hb))
  obtain ⟨za, zk, zc, mu, rfl, zh, hm⟩ := hz
  obtain ⟨zc2, zc3, hzk, zr⟩ := id zh
  obtain ⟨ma, mc, rfl, mr⟩ := id hm
  injection hzk with hz1 hz2 hz3
  subst hz1
  subst hz2
  subst hz3
  clear zr mr hv1 hv2
  obtain ⟨sg, hsg⟩ : ∃ s, s = decide (q.num < 0) := ⟨_, rfl⟩
  rw [← hsg]
  have HSG := Lib.hid hsg
  clear hsg
  ((have p0 := bZ.c0); (have p1 := bZ.c1); (have p2 := bZ.c2); (have pf0 := bZ.frozen 0); (have pf1 := bZ.frozen 1); (have pf2 := bZ.frozen 2); (have pl := bZ.lt); (have KV := Lib.hid (((zh.put bZ.c0 (by intro z; simp) (.bool (sg))).put (bZ.set 0 (.bool (sg))).c1 (by intro z; simp) (.slice (za) ((D.wd q.num.natAbs).length) (zc))).put ((bZ.set 0 (.bool (sg))).set 1 (.slice (za) ((D.wd q.num.natAbs).length) (zc))).c2 (by intro z; simp) (.slice (ma) ((D.wd (q.den - 1)).length) (mc)))); (have KM := Lib.hid (((hm.put bZ.c0 (by intro z; simp) (.bool (sg))).put (bZ.set 0 (.bool (sg))).c1 (by intro z; simp) (.slice (za) ((D.wd q.num.natAbs).length) (zc))).put ((bZ.set 0 (.bool (sg))).set 1 (.slice (za) ((D.wd q.num.natAbs).length) (zc))).c2 (by intro z; simp) (.slice (ma) ((D.wd (q.den - 1)).length) (mc)))); (have KI := Lib.hid (((hin.setCell (p := ⟨Z, 0, none⟩) hZb (.bool (sg))).setCell (p := ⟨Z, 1, none⟩) hZb (.slice (za) ((D.wd q.num.natAbs).length) (zc))).setCell (p := ⟨Z, 2, none⟩) hZb (.slice (ma) ((D.wd (q.den - 1)).length) (mc)))); (have KS := Lib.hid (((bZ.set 0 (.bool (sg))).set 1 (.slice (za) ((D.wd q.num.natAbs).length) (zc))).set 2 (.slice (ma) ((D.wd (q.den - 1)).length) (mc)))); (clear bZ zh hm hin); (go_wp2_with fail); (clear p0 p1 p2 pf0 pf1 pf2 pl); (have KB := KS.out); (simp only [List.set] at KB); (have p0 := KB.c0); (have p1 := KB.c1); (have p2 := KB.c2); (exact bodyPost_ret (v := .agg #[(.bool (sg)), (.slice (za) ((D.wd q.num.natAbs).length) (zc)), (.slice (ma) ((D.wd (q.den - 1)).length) (mc))]) (by simp [results, Tryz.results27, go_sem, p0, p1, p2]) rfl ⟨⟨_, rfl, ⟨za, (D.wd q.num.natAbs).length, zc, _, by rw [HSG.out], KV.out, KM.out⟩⟩, KI.out.bel⟩))
end Gus
end
section
/- The reference's fraction of a statement's input. -/
namespace Gus
open Go Go.RowKit Go.Proofs
set_option maxRecDepth 100000 in
set_option maxHeartbeats 4000000 in
theorem qref_any (n d : Int) (hn0 : -9223372036854775808 ≤ n) (hn1 : n < 9223372036854775808) (hd0 : 0 ≤ d) (hd1 : d < 4294967296) (w : World) :
    Calls Tryz.prog 8 #[.agg #[.int .i64 n, .int .u32 d]] w fun e w' => RFrac w (qOf n d) e w' := by
  have c1 := rfof_any n (max d 1) hn0 hn1 (by omega) (by omega)
  have hw1 : IntKind.i64.wrap (max d 1) = max d 1 := IntWalk.i64_in _ (by omega)
  unfold RFrac at c1 ⊢
  unfold qOf
  generalize hq : (n : Rat) / ((max d 1 : Int) : Rat) = q at *
  have HQ := Lib.hid hq
  clear hq
  obtain ⟨base, hbase⟩ : ∃ b, b = w.heap.size := ⟨_, rfl⟩
  rw [← hbase]
  have HB := Lib.hid hbase
  clear hbase
  go_enter Tryz.func8, Tryz.ntmps8
  go_upto_region 1 with fail
  ((obtain ⟨X, hXX⟩ : ∃ z, z = w.heap.size := ⟨_, rfl⟩); (have bV0 := ((Bx.new_at w #[.int .i64 n, .int .u32 d] 35 (n := X) (by simp [hXX])).alloc (.cells #[.bool false, .slice none 0 0, .slice none 0 0] 45))); (have bV1 := (Bx.new_at (w.alloc (.cells #[.int .i64 n, .int .u32 d] 35)) #[.bool false, .slice none 0 0, .slice none 0 0] 45 (n := X + 1) (by simp [hXX]))); (have hV := (((In.self w).alloc (.cells #[.int .i64 n, .int .u32 d] 35)).alloc (.cells #[.bool false, .slice none 0 0, .slice none 0 0] 45))); (rw [← hXX] at hV ⊢); (have HX := Lib.hid hXX); (clear hXX); (generalize (w.alloc (.cells #[.int .i64 n, .int .u32 d] 35)).alloc (.cells #[.bool false, .slice none 0 0, .slice none 0 0] 45) = V at *))
  have hin : In base w V := by rw [HB.out, ← HX.out]; exact hV
  have hZb : base ≤ X + 1 := by rw [HB.out, ← HX.out]; omega
  clear hV HX
  generalize hZ : X + 1 = Z at *
  have hZ' := Lib.hid hZ
  clear hZ
  have bZ := bV1
  clear bV1
  skip
  ((have p0 := bV0.c0); (have p1 := bV0.c1); (have pl := bV0.lt))
  ((go_wp2_with fail); (((with_reducible refine (c1 _).mono ?_))); (rintro e wc1 ⟨⟨v3, rfl, hz⟩, hb⟩); (clear p0 p1 pl c1); (replace hin := hin.call hb); (replace bV0 := bV0.call hb); (replace bZ := bZ.call hb); (clear hb))
  obtain ⟨za, zk, zc, mu, rfl, zh, hm⟩ := hz
  obtain ⟨zc2, zc3, hzk, zr⟩ := id zh
  obtain ⟨ma, mc, rfl, mr⟩ := id hm
  injection hzk with hz1 hz2 hz3
  subst hz1
  subst hz2
  subst hz3
  clear zr mr
  obtain ⟨sg, hsg⟩ : ∃ s, s = decide (q.num < 0) := ⟨_, rfl⟩
  rw [← hsg]
  have HSG := Lib.hid hsg
  clear hsg
  ((have p0 := bZ.c0); (have p1 := bZ.c1); (have p2 := bZ.c2); (have pf0 := bZ.frozen 0); (have pf1 := bZ.frozen 1); (have pf2 := bZ.frozen 2); (have pl := bZ.lt); (have KV := Lib.hid (((zh.put bZ.c0 (by intro z; simp) (.bool (sg))).put (bZ.set 0 (.bool (sg))).c1 (by intro z; simp) (.slice (za) ((D.wd q.num.natAbs).length) (zc))).put ((bZ.set 0 (.bool (sg))).set 1 (.slice (za) ((D.wd q.num.natAbs).length) (zc))).c2 (by intro z; simp) (.slice (ma) ((D.wd (q.den - 1)).length) (mc)))); (have KM := Lib.hid (((hm.put bZ.c0 (by intro z; simp) (.bool (sg))).put (bZ.set 0 (.bool (sg))).c1 (by intro z; simp) (.slice (za) ((D.wd q.num.natAbs).length) (zc))).put ((bZ.set 0 (.bool (sg))).set 1 (.slice (za) ((D.wd q.num.natAbs).length) (zc))).c2 (by intro z; simp) (.slice (ma) ((D.wd (q.den - 1)).length) (mc)))); (have KI := Lib.hid (((hin.setCell (p := ⟨Z, 0, none⟩) hZb (.bool (sg))).setCell (p := ⟨Z, 1, none⟩) hZb (.slice (za) ((D.wd q.num.natAbs).length) (zc))).setCell (p := ⟨Z, 2, none⟩) hZb (.slice (ma) ((D.wd (q.den - 1)).length) (mc)))); (have KS := Lib.hid (((bZ.set 0 (.bool (sg))).set 1 (.slice (za) ((D.wd q.num.natAbs).length) (zc))).set 2 (.slice (ma) ((D.wd (q.den - 1)).length) (mc)))); (clear bZ zh hm hin); (go_wp2_with fail); (clear p0 p1 p2 pf0 pf1 pf2 pl); (have KB := KS.out); (simp only [List.set] at KB); (have p0 := KB.c0); (have p1 := KB.c1); (have p2 := KB.c2); (exact bodyPost_ret (v := .agg #[(.bool (sg)), (.slice (za) ((D.wd q.num.natAbs).length) (zc)), (.slice (ma) ((D.wd (q.den - 1)).length) (mc))]) (by simp [results, Tryz.results8, go_sem, p0, p1, p2]) rfl ⟨⟨_, rfl, ⟨za, (D.wd q.num.natAbs).length, zc, _, by rw [HSG.out], KV.out, KM.out⟩⟩, KI.out.bel⟩))
end Gus
end
section
/- The reference's texts: the plain part of gussetref01.Text. -/
namespace Gus
open Go Go.RowKit Go.Proofs
theorem D.getD_val : ∀ (l : List Nat), D.Digs l → ∀ i, l.getD i 0 = D.val l / 10000 ^ i % 10000
  | [], _, i => by simp [D.val]
  | d :: l, h, 0 => by
    have := h.head
    simp only [D.val, List.getD_cons_zero, Nat.pow_zero, Nat.div_one]; omega
  | d :: l, h, i + 1 => by
    have h0 := h.head
    have ih := D.getD_val l h.tail i
    have e : D.val (d :: l) / 10000 = D.val l := by simp only [D.val]; omega
    rw [List.getD_cons_succ, ih, Nat.pow_succ, Nat.mul_comm, ← Nat.div_div_eq_div_mul, e]
/-- the last j digits of n are written -/
def TxS (n j : Nat) (s : List UInt8) : Prop := s = pad j n
theorem TxS.step {n j : Nat} {s : List UInt8} (h : TxS n j s) : TxS n (j + 1) (UInt8.ofNat (48 + n / 10 ^ j % 10) :: s) := by
  unfold TxS at *
  have e : n % 10 ^ (j + 1) = n % 10 ^ j + 10 ^ j * (n / 10 ^ j % 10) := by rw [Nat.pow_succ]; exact Nat.mod_mul
  rw [← pad_mod (j + 1), e, pad_cons j _ _ (Nat.mod_lt _ (Nat.pow_pos (by decide))) (Nat.mod_lt _ (by decide)), pad_mod, h]
theorem TxS.fin {n j : Nat} {s : List UInt8} (h : TxS n (j + 1) s) (h1 : 10 ^ j ≤ n) (h2 : n < 10 ^ (j + 1)) : s = natT n := by
  rw [show s = _ from h]; exact pad_dec j n h1 h2
/-- within digit i, k of its digits written: d is what is left of it -/
def TxI (n i L k d : Nat) (s : List UInt8) : Prop := d = n / 10 ^ (4 * i + k) % 10 ^ (4 - k) ∧ TxS n (4 * i + k) s ∧ (i + 1 = L → 0 < k → 10 ^ (4 * i + k - 1) ≤ n)
/-- ahead of digit i -/
def TxO (n L i : Nat) (s : List UInt8) : Prop := (i < L ∧ TxS n (4 * i) s) ∨ (i = L ∧ s = natT n)
theorem TxI.start {n i L : Nat} {s : List UInt8} (h : TxO n L i s) (hi : i < L) : TxI n i L 0 ((D.wd n).getD i 0) s := by
  rcases h with ⟨_, h⟩ | ⟨h, _⟩
  · refine ⟨?_, h, fun _ h0 => absurd h0 (Nat.lt_irrefl _)⟩
    rw [D.getD_val _ (D.wd_digs n), D.wd_val, Nat.add_zero, Nat.pow_mul]
  · omega
theorem TxI.step {n i L k d : Nat} {s : List UInt8} (h : TxI n i L k d s) (hk : k < 4) (hd : i + 1 < L ∨ 0 < d) : TxI n i L (k + 1) (d / 10) (UInt8.ofNat (48 + d % 10) :: s) := by
  obtain ⟨h1, h2, _⟩ := h
  obtain ⟨m, hm⟩ : ∃ m, 4 - k = m + 1 := ⟨3 - k, by omega⟩
  have e1 : d / 10 = n / 10 ^ (4 * i + (k + 1)) % 10 ^ (4 - (k + 1)) := by
    rw [h1, hm, Nat.pow_succ, Nat.mul_comm (10 ^ m), Nat.mod_mul_right_div_self, Nat.div_div_eq_div_mul, ← Nat.pow_succ, show 4 - (k + 1) = m by omega]
    rfl
  have e2 : d % 10 = n / 10 ^ (4 * i + k) % 10 := by
    rw [h1, hm]; exact Nat.mod_mod_of_dvd _ ⟨10 ^ m, by rw [Nat.pow_succ, Nat.mul_comm]⟩
  refine ⟨e1, by rw [e2]; exact h2.step, fun hL _ => ?_⟩
  have hd0 : 0 < d := by rcases hd with h | h; omega; exact h
  show 10 ^ (4 * i + k) ≤ n
  refine Decidable.by_contra fun hn => ?_
  rw [h1, Nat.div_eq_of_lt (by omega), Nat.zero_mod] at hd0
  exact absurd hd0 (Nat.lt_irrefl _)
theorem TxI.lt {n i L k d : Nat} {s : List UInt8} (h : TxI n i L k d s) : d < 10000 := by
  rw [h.1]
  refine Nat.lt_of_lt_of_le (Nat.mod_lt _ (Nat.pow_pos (by decide))) ?_
  exact (Nat.pow_le_pow_right (by decide) (show 4 - k ≤ 4 by omega) : 10 ^ (4 - k) ≤ 10 ^ 4)
theorem TxI.fin {n i L k d : Nat} {s : List UInt8} (h : TxI n i L k d s) (hL : L = (D.wd n).length) (hi : i < L) (hk : k ≤ 4) (hx : k = 4 ∨ (i + 1 = L ∧ d = 0)) : TxO n L (i + 1) s := by
  obtain ⟨h1, h2, h3⟩ := h
  by_cases hiL : i + 1 < L
  · have hk4 : k = 4 := by omega
    subst hk4
    exact .inl ⟨hiL, by rw [show 4 * (i + 1) = 4 * i + 4 by omega]; exact h2⟩
  · have hiL' : i + 1 = L := by omega
    have hlo : 10 ^ (4 * i) ≤ n := by
      have := wd_ge (n := n) (by omega)
      rw [← hL, ← hiL', Nat.add_sub_cancel, show (10000 : Nat) = 10 ^ 4 from rfl, ← Nat.pow_mul] at this
      exact this
    have hhi : n < 10 ^ (4 * i + 4) := by
      have := D.val_lt (D.wd_digs n)
      rw [D.wd_val, ← hL, ← hiL', show (10000 : Nat) = 10 ^ 4 from rfl, ← Nat.pow_mul, show 4 * (i + 1) = 4 * i + 4 by omega] at this
      exact this
    have hdd : d = n / 10 ^ (4 * i + k) := by
      rw [h1]
      refine Nat.mod_eq_of_lt ?_
      rw [Nat.div_lt_iff_lt_mul (Nat.pow_pos (by decide)), ← Nat.pow_add, show 4 - k + (4 * i + k) = 4 * i + 4 by omega]
      exact hhi
    have hlt : n < 10 ^ (4 * i + k) := by
      rcases hx with rfl | ⟨_, h0⟩
      · exact hhi
      · rw [h0] at hdd
        refine Decidable.by_contra fun hn => ?_
        have := Nat.div_pos (a := n) (b := 10 ^ (4 * i + k)) (by omega) (Nat.pow_pos (by decide))
        omega
    have hk0 : 0 < k := by
      refine Decidable.by_contra fun h0 => ?_
      obtain rfl : k = 0 := by omega
      rw [Nat.add_zero] at hlt; omega
    obtain ⟨j, hj⟩ : ∃ j, 4 * i + k = j + 1 := ⟨4 * i + k - 1, by omega⟩
    have h4 := h3 hiL' hk0
    rw [hj, Nat.add_sub_cancel] at h4
    rw [hj] at h2 hlt
    exact .inr ⟨hiL', h2.fin h4 hlt⟩
end Gus
end
section
/- The reference's matrices in memory. -/
namespace Gus
open Go Go.RowKit Go.Proofs
/-- blocks of some types stay -/
structure KeepT (P : TypeId → Prop) (w w' : World) : Prop where
  size : w.heap.size ≤ w'.heap.size
  block : ∀ (b : Nat) (cur : Array Value) (T : TypeId) (fz : Nat × Nat), w.heap[b]? = some (Obj.cells cur T fz) → P T → w'.heap[b]? = w.heap[b]?
section
variable {w w' : World} {P Q : TypeId → Prop}
theorem KeepT.of_below (hb : Below w.heap.size w w') : KeepT P w w' := ⟨hb.size, fun _ _ _ _ h _ => hb.block _ (Array.getElem?_eq_some_iff.1 h).1⟩
theorem KeepT.of_grown {g : Nat} {cur : Array Value} {T : TypeId} {fz : Nat × Nat} (hg : w.heap[g]? = some (Obj.cells cur T fz)) (hT : ¬ P T) (hgr : w.grownBy w' (some g)) : KeepT P w w' :=
  ⟨hgr.size, fun b c2 T2 f2 h hP => hgr.block b (Array.getElem?_eq_some_iff.1 h).1 (fun e => by
    injection e with e
    subst e
    rw [hg] at h
    injection h with h7
    injection h7 with _ h8
    subst h8
    exact hT hP)⟩
theorem KeepT.of_own {lo size n : Nat} {T : TypeId} {v : Value} {xs : List Value} (h : w.ownsRow lo T size v n xs) (hT : ¬ P T) (hgr : w.grownBy w' v.ownBlock) : KeepT P w w' := by
  rcases h.2 with ⟨rfl, _⟩ | ⟨g, cap, cur, rfl, _, hg, _⟩
  · exact ⟨hgr.size, fun b c2 T2 f2 h hP => hgr.block b (Array.getElem?_eq_some_iff.1 h).1 (by simp [Value.ownBlock])⟩
  · exact .of_grown hg hT (by simpa [Value.ownBlock] using hgr)
theorem KeepT.of_set {S j : Nat} {T : TypeId} {cs : List Value} (hS : Bx w S T cs) (hT : ¬ P T) (x : Value) : KeepT P w (w.setCell ⟨S, j, none⟩ x) :=
  .of_grown hS hT (gr_cell w ⟨S, j, none⟩ x)
theorem KeepT.mono (h : KeepT P w w') (hPQ : ∀ T, Q T → P T) : KeepT Q w w' := ⟨h.size, fun b c T f h1 h2 => h.block b c T f h1 (hPQ T h2)⟩
theorem DsAt.keepT {a : Option Addr} {l : List Nat} (h : DsAt w a l) (hk : KeepT P w w') (hP : P 3) : DsAt w' a l := by
  have hne : l ≠ [] → ∀ p, a = some p → w'.heap[p.block]? = w.heap[p.block]? := fun hl p hp => by
    obtain ⟨cur2, fz2, h1⟩ := h.typed hl p hp
    exact hk.block _ _ _ _ h1 hP
  refine ⟨fun i hi => ?_, fun hl p hp => by obtain ⟨c2, f2, h1⟩ := h.typed hl p hp; exact ⟨c2, f2, (hne hl p hp).trans h1⟩⟩
  obtain ⟨b, off, h1, h2, h3⟩ := h i hi
  have hl : l ≠ [] := by intro e; subst e; exact absurd hi (by simp)
  have hbk := hne hl _ h1
  refine ⟨b, off, h1, Nat.lt_of_lt_of_le h2 hk.size, ?_⟩
  unfold World.cell? at h3 ⊢
  rw [hbk]; exact h3
theorem NV.keepT {v : Value} {n : Nat} (h : NV w v n) (hk : KeepT P w w') (hP : P 3) : NV w' v n := by
  obtain ⟨a, cap, h1, h2, h3, h4⟩ := h
  exact ⟨a, cap, h1, h2, h3, h4.keepT hk hP⟩
theorem FV.keepT {v : Value} {q : Rat} (h : FV w v q) (hk : KeepT P w w') (hP : P 3) : FV w' v q := by
  obtain ⟨a, k, c, u, h1, h2, h3⟩ := h
  exact ⟨a, k, c, u, h1, h2.keepT hk hP, h3.keepT hk hP⟩
end
/-- a row of fractions of the reference -/
def RowR (w : World) (x : Value) (c : Nat) (g : Nat → Rat) : Prop := ∃ a cap, x = .slice a c cap ∧ ∀ k, k < c → ∃ b off x0 x1 x2, a = some ⟨b, off, none⟩ ∧ (∃ cur fz, w.heap[b]? = some (Obj.cells cur 45 fz)) ∧ w.cell? ⟨b, off + k * 3, none⟩ = some x0 ∧ w.cell? ⟨b, off + k * 3 + 1, none⟩ = some x1 ∧ w.cell? ⟨b, off + k * 3 + 2, none⟩ = some x2 ∧ FV w (.agg #[x0, x1, x2]) (g k)
def tyR (T : TypeId) : Prop := T = 3 ∨ T = 45
theorem RowR.keepT {w w' : World} {x : Value} {c : Nat} {g : Nat → Rat} (h : RowR w x c g) (hk : KeepT tyR w w') : RowR w' x c g := by
  obtain ⟨a, cap, h1, h2⟩ := h
  refine ⟨a, cap, h1, fun k hkc => ?_⟩
  obtain ⟨b, off, x0, x1, x2, h3, ⟨cur, fz, h4⟩, h5, h6, h7, h8⟩ := h2 k hkc
  have hb := hk.block _ _ _ _ h4 (.inr rfl)
  refine ⟨b, off, x0, x1, x2, h3, ⟨cur, fz, hb.trans h4⟩, ?_, ?_, ?_, h8.keepT hk (.inl rfl)⟩
  · unfold World.cell? at h5 ⊢; rw [hb]; exact h5
  · unfold World.cell? at h6 ⊢; rw [hb]; exact h6
  · unfold World.cell? at h7 ⊢; rw [hb]; exact h7
theorem RowR.call {w w' : World} {x : Value} {c : Nat} {g : Nat → Rat} (h : RowR w x c g) (hb : Below w.heap.size w w') : RowR w' x c g := h.keepT (.of_below hb)
/-- a matrix of the reference -/
def MatR (w : World) (v : Value) (r c : Nat) (f : Nat → Nat → Rat) : Prop := ∃ a cap, v = .agg #[.int .i64 (c : Nat), .slice a r cap] ∧ ∀ i, i < r → ∃ b off x, a = some ⟨b, off, none⟩ ∧ (∃ cur fz, w.heap[b]? = some (Obj.cells cur 84 fz)) ∧ w.cell? ⟨b, off + i, none⟩ = some x ∧ RowR w x c (f i)
/-- the types of a matrix' blocks -/
def tyM (T : TypeId) : Prop := tyR T ∨ T = 84
theorem MatR.keepT {w w' : World} {v : Value} {r c : Nat} {f : Nat → Nat → Rat} (h : MatR w v r c f) (hk : KeepT tyM w w') : MatR w' v r c f := by
  obtain ⟨a, cap, h1, h2⟩ := h
  refine ⟨a, cap, h1, fun i hi => ?_⟩
  obtain ⟨b, off, x, h3, ⟨cur, fz, h4⟩, h5, h6⟩ := h2 i hi
  have hb := hk.block _ _ _ _ h4 (.inr rfl)
  refine ⟨b, off, x, h3, ⟨cur, fz, hb.trans h4⟩, ?_, h6.keepT (hk.mono fun T hT => .inl hT)⟩
  unfold World.cell? at h5 ⊢; rw [hb]; exact h5
theorem MatR.call {w w' : World} {v : Value} {r c : Nat} {f : Nat → Nat → Rat} (h : MatR w v r c f) (hb : Below w.heap.size w w') : MatR w' v r c f := h.keepT (.of_below hb)
theorem MatR.shape {w : World} {v : Value} {r c : Nat} {f : Nat → Nat → Rat} (h : MatR w v r c f) : ∃ a cap, v = .agg #[.int .i64 (c : Nat), .slice a r cap] := by
  obtain ⟨a, cap, h1, _⟩ := h; exact ⟨a, cap, h1⟩
abbrev V3 := Value × Value × Value
def v3c (x : V3) : List Value := [x.1, x.2.1, x.2.2]
abbrev v3v (x : V3) : Value := .agg #[x.1, x.2.1, x.2.2]
theorem flat3_length (vs : List V3) : (vs.flatMap v3c).length = vs.length * 3 := by
  induction vs with
  | nil => rfl
  | cons e es ih => rw [List.flatMap_cons, List.length_append, ih, List.length_cons]; show 3 + _ = _; omega
theorem flat3_at : ∀ (vs : List V3) (i j : Nat) (hi : i < vs.length), j < 3 → (vs.flatMap v3c)[i * 3 + j]? = (v3c (vs[i]'hi))[j]?
  | [], i, j, h, _ => absurd h (Nat.not_lt_zero _)
  | e :: es, 0, j, _, hj => by
    rw [List.flatMap_cons, Nat.zero_mul, Nat.zero_add, List.getElem?_append_left (by exact hj)]; rfl
  | e :: es, i + 1, j, h, hj => by
    rw [List.flatMap_cons, List.getElem?_append_right (by show 3 ≤ _; omega), show (i + 1) * 3 + j - (v3c e).length = i * 3 + j by show _ - 3 = _; omega, flat3_at es i j (by simpa using h) hj]
    rfl
/-- a growing row -/
def ROwn (w : World) (lo : Nat) (v : Value) (k : Nat) (g : Nat → Rat) : Prop := ∃ vs : List V3, vs.length = k ∧ w.ownsRow lo 45 3 v k (vs.flatMap v3c) ∧ ∀ j (hj : j < vs.length), FV w (v3v vs[j]) (g j)
theorem ROwn.start (w : World) (lo : Nat) (g : Nat → Rat) : ROwn w lo (.slice none 0 0) 0 g := ⟨[], rfl, World.ownsRow_nil _ _ _ _, fun _ hj => absurd hj (Nat.not_lt_zero _)⟩
theorem ROwn.call {w w' : World} {lo k : Nat} {v : Value} {g : Nat → Rat} (h : ROwn w lo v k g) (hb : Below w.heap.size w w') : ROwn w' lo v k g := by
  obtain ⟨vs, h1, h2, h3⟩ := h
  exact ⟨vs, h1, ownsRow_bel h2 hb, fun j hj => (h3 j hj).call hb⟩
theorem ROwn.row {w : World} {lo c : Nat} {v : Value} {g : Nat → Rat} (h : ROwn w lo v c g) : RowR w v c g := by
  obtain ⟨vs, h1, h2, h3⟩ := h
  rcases h2.2 with ⟨rfl, hn⟩ | ⟨G, cap, cur, rfl, _, hg, _, _, _, h4⟩
  · subst hn; exact ⟨none, 0, rfl, fun k hk => absurd hk (Nat.not_lt_zero _)⟩
  · refine ⟨some ⟨G, 0, none⟩, cap, rfl, fun k hk => ⟨G, 0, (vs[k]'(by omega)).1, (vs[k]'(by omega)).2.1, (vs[k]'(by omega)).2.2, rfl, ⟨_, _, hg⟩, ?_, ?_, ?_, h3 k (by omega)⟩⟩
    all_goals
      rw [cell_of_row w G _ _ _ _ hg, Nat.zero_add, ← Array.getElem?_toList]
    · have e := congrArg (fun l => l[k * 3 + 0]?) h4
      simp only [List.getElem?_take] at e
      rw [if_pos (by omega), flat3_at vs k 0 (by omega) (by decide)] at e
      exact e
    · have e := congrArg (fun l => l[k * 3 + 1]?) h4
      simp only [List.getElem?_take] at e
      rw [if_pos (by omega), flat3_at vs k 1 (by omega) (by decide)] at e
      exact e
    · have e := congrArg (fun l => l[k * 3 + 2]?) h4
      simp only [List.getElem?_take] at e
      rw [if_pos (by omega), flat3_at vs k 2 (by omega) (by decide)] at e
      exact e
theorem ROwn.snoc {w w' : World} {lo k : Nat} {v v' : Value} {g : Nat → Rat} {vs : List V3} {x : V3} (h1 : vs.length = k) (h2 : w.ownsRow lo 45 3 v k (vs.flatMap v3c)) (h3 : ∀ j (hj : j < vs.length), FV w (v3v vs[j]) (g j)) (hx : FV w (v3v x) (g k))
    (hown : w'.ownsRow lo 45 3 v' (k + 1) (vs.flatMap v3c ++ v3c x)) (hg : w.grownBy w' v.ownBlock) : ROwn w' lo v' (k + 1) g := by
  have hk : KeepT (· = 3) w w' := .of_own h2 (by decide) hg
  refine ⟨vs ++ [x], by rw [List.length_append, h1]; rfl, ?_, fun j hj => ?_⟩
  · rw [List.flatMap_append]; simpa using hown
  · rw [List.length_append, List.length_singleton] at hj
    by_cases hjk : j < vs.length
    · rw [List.getElem_append_left hjk]; exact (h3 j hjk).keepT hk rfl
    · obtain rfl : j = vs.length := by omega
      rw [List.getElem_append_right (Nat.le_refl _)]
      simp only [Nat.sub_self, List.getElem_singleton]
      rw [h1]; exact hx.keepT hk rfl
/-- the rows so far -/
def OutR (w : World) (lo : Nat) (v : Value) (k c : Nat) (f : Nat → Nat → Rat) : Prop := ∃ vs, w.ownsRow lo 84 1 v k vs ∧ ∀ i, i < k → RowR w (vs.getD i undef) c (f i)
theorem OutR.start (w : World) (lo c : Nat) (f : Nat → Nat → Rat) : OutR w lo (.slice none 0 0) 0 c f := ⟨[], World.ownsRow_nil _ _ _ _, fun _ hi => absurd hi (Nat.not_lt_zero _)⟩
theorem OutR.call {w w' : World} {lo k c : Nat} {v : Value} {f : Nat → Nat → Rat} (h : OutR w lo v k c f) (hb : Below w.heap.size w w') : OutR w' lo v k c f := by
  obtain ⟨vs, h1, h2⟩ := h
  exact ⟨vs, ownsRow_bel h1 hb, fun i hi => (h2 i hi).call hb⟩
theorem OutR.shape {w : World} {lo k c : Nat} {v : Value} {f : Nat → Nat → Rat} (h : OutR w lo v k c f) : ∃ a cap, v = .slice a k cap := by
  obtain ⟨vs, h1, _⟩ := h
  rcases h1.2 with ⟨rfl, hn⟩ | ⟨g, cap, _, rfl, _⟩
  · exact ⟨none, 0, by rw [hn]⟩
  · exact ⟨_, _, rfl⟩
theorem OutR.snoc {w w' : World} {lo k c : Nat} {v v' x : Value} {f : Nat → Nat → Rat} {vs : List Value} (h1 : w.ownsRow lo 84 1 v k vs) (h2 : ∀ i, i < k → RowR w (vs.getD i undef) c (f i)) (hx : RowR w x c (f k))
    (hown : w'.ownsRow lo 84 1 v' (k + 1) (vs ++ [x])) (hg : w.grownBy w' v.ownBlock) : OutR w' lo v' (k + 1) c f := by
  have hk : KeepT tyR w w' := .of_own h1 (by unfold tyR; decide) hg
  have hvl : vs.length = k := by have := h1.1; omega
  refine ⟨_, hown, fun i hi => ?_⟩
  by_cases hik : i < k
  · rw [List.getD_eq_getElem?_getD, List.getElem?_append_left (by omega), ← List.getD_eq_getElem?_getD]
    exact (h2 i hik).keepT hk
  · obtain rfl : i = k := by omega
    rw [List.getD_eq_getElem?_getD, List.getElem?_append_right (by omega), hvl, Nat.sub_self]
    exact hx.keepT hk
theorem OutR.set {w : World} {lo k c S : Nat} {v x : Value} {f : Nat → Nat → Rat} {cs : List Value} (h : OutR w lo v k c f) (hS : Bx w S 30 cs) (j : Nat) : OutR (w.setCell ⟨S, j, none⟩ x) lo v k c f := by
  obtain ⟨vs, h1, h2⟩ := h
  exact ⟨vs, ownsRow_grown h1 hS (by decide) (gr_cell w ⟨S, j, none⟩ x), fun i hi => (h2 i hi).keepT (.of_set hS (by unfold tyR; decide) x)⟩
theorem OutR.mat {w : World} {lo r c : Nat} {v : Value} {f : Nat → Nat → Rat} (h : OutR w lo v r c f) : MatR w (.agg #[.int .i64 (c : Nat), v]) r c f := by
  obtain ⟨vs, h1, h2⟩ := h
  rcases h1.2 with ⟨rfl, hn⟩ | ⟨g, cap, cur, rfl, _, hg, hnc, _, _, h4⟩
  · subst hn; exact ⟨none, 0, rfl, fun i hi => absurd hi (Nat.not_lt_zero _)⟩
  · refine ⟨some ⟨g, 0, none⟩, cap, rfl, fun i hi => ?_⟩
    have hvl : vs.length = r := by have := h1.1; omega
    refine ⟨g, 0, vs.getD i undef, rfl, ⟨_, _, hg⟩, ?_, h2 i hi⟩
    rw [cell_of_row w g _ _ _ _ hg, Nat.zero_add]
    have h5 : (cur.toList.take (r * 1))[i]? = vs[i]? := by rw [h4]
    rw [List.getElem?_take, if_pos (by omega), Array.getElem?_toList] at h5
    rw [h5, List.getD_eq_getElem?_getD, List.getElem?_eq_getElem (by omega)]; rfl
theorem MatR.at {w : World} {ra : Option Addr} {rk r c : Nat} {f : Nat → Nat → Rat} (h : MatR w (.agg #[.int .i64 (c : Nat), .slice ra r rk]) r c f) {i : Nat} (hi : i < r) : ∃ b off x, ra = some ⟨b, off, none⟩ ∧ b < w.heap.size ∧ w.cell? ⟨b, off + i, none⟩ = some x ∧ RowR w x c (f i) := by
  obtain ⟨a, cap, he, h2⟩ := h
  injection he with he
  have he2 := congrArg Array.toList he
  simp only [List.cons.injEq, Value.slice.injEq, and_true, true_and] at he2
  obtain ⟨b, off, x, h3, ⟨cur, fz, h4⟩, h5, h6⟩ := h2 i hi
  exact ⟨b, off, x, he2.1.trans h3, (Array.getElem?_eq_some_iff.1 h4).1, h5, h6⟩
theorem RowR.at {w : World} {x : Value} {c : Nat} {g : Nat → Rat} (h : RowR w x c g) {k : Nat} (hk : k < c) : ∃ b off cap bb a1 l1 k1 a2 l2 k2, x = .slice (some ⟨b, off, none⟩) c cap ∧ b < w.heap.size ∧ w.cell? ⟨b, off + k * 3, none⟩ = some (.bool bb) ∧ w.cell? ⟨b, off + k * 3 + 1, none⟩ = some (.slice a1 l1 k1) ∧ w.cell? ⟨b, off + k * 3 + 2, none⟩ = some (.slice a2 l2 k2) ∧ FV w (.agg #[.bool bb, .slice a1 l1 k1, .slice a2 l2 k2]) (g k) := by
  obtain ⟨a, cap, rfl, h2⟩ := h
  obtain ⟨b, off, x0, x1, x2, rfl, ⟨cur, fz, h4⟩, h5, h6, h7, h8⟩ := h2 k hk
  obtain ⟨a1, l1, k1, u, he, h9, h10⟩ := id h8
  obtain ⟨a2, k2, rfl, _⟩ := h10
  injection he with he
  have he2 := congrArg Array.toList he
  simp only [List.cons.injEq, and_true] at he2
  obtain ⟨rfl, rfl, rfl⟩ := he2
  exact ⟨b, off, cap, _, a1, l1, k1, a2, _, k2, rfl, (Array.getElem?_eq_some_iff.1 h4).1, h5, h6, h7, h8⟩
theorem FV.put {w : World} {Y : Nat} {T : TypeId} {cs : List Value} {v : Value} {q : Rat} (h : FV w v q) (hY : Bx w Y T cs) (hT : ¬ T = 3) (j : Nat) (x : Value) : FV (w.setCell ⟨Y, j, none⟩ x) v q :=
  h.keepT (P := (· = 3)) (.of_set hY hT x) rfl
theorem ROwn.put {w : World} {lo k Y : Nat} {v : Value} {g : Nat → Rat} {cs : List Value} (h : ROwn w lo v k g) (hY : Bx w Y 45 cs) (hne : v.ownBlock ≠ some Y) (j : Nat) (x : Value) : ROwn (w.setCell ⟨Y, j, none⟩ x) lo v k g := by
  obtain ⟨vs, h1, h2, h3⟩ := h
  exact ⟨vs, h1, ownsRow_kept h2 (fun b hb => heap_setCell_other w ⟨Y, j, none⟩ b x (fun e => hne (by rw [hb, e]))), fun i hi => (h3 i hi).put hY (by decide) j x⟩
theorem ROwn.ne {w : World} {lo k Y : Nat} {v : Value} {g : Nat → Rat} (h : ROwn w lo v k g) (hY : w.heap.size ≤ Y) : v.ownBlock ≠ some Y := fun e => by
  obtain ⟨vs, _, h2, _⟩ := h
  have := (h2.lt Y e).2; omega
theorem KeepT.drew (P : TypeId → Prop) (w : World) : KeepT P w w.drew := ⟨Nat.le_refl _, fun _ _ _ _ _ _ => rfl⟩
theorem RowR.drew {w : World} {x : Value} {c : Nat} {g : Nat → Rat} (h : RowR w x c g) : RowR w.drew x c g := h.keepT (.drew _ _)
theorem MatR.drew {w : World} {v : Value} {r c : Nat} {f : Nat → Nat → Rat} (h : MatR w v r c f) : MatR w.drew v r c f := h.keepT (.drew _ _)
end Gus
end
