/- Proved here: parts of the proof: Rdq Rdr Rds Rdt. Conditions: those that each theorem states. -/
import Derived.Test.YtakblfhmllgepaaGreatDoorRdoQ
section
/- The reference's fractions: den, Int. -/
namespace Gus
open Go Go.RowKit Go.Proofs
def RFrac (w : World) (q : Rat) (e : Ending) (w' : World) : Prop := (∃ v, e = .returned v ∧ FV w' v q) ∧ Below w.heap.size w w'
set_option maxRecDepth 100000 in
set_option maxHeartbeats 1000000 in
theorem rfdeni_any (w : World) (v : Value) (q : Rat) (h : FV w v q) (hs : (D.wd (q.den - 1)).length ≤ 1099511627776) (hs2 : (D.wd q.den).length ≤ 4611686018427387904) :
    Calls Tryz.prog 56 #[v] w fun e w' => RInt w (q.den : Int) e w' := by
  have c1 := fun W (hb : Below w.heap.size w W) => rfden_any W v q (h.call hb) hs
  have c2 := fun W u (h : NV W u q.den) => zfrom_any W false u q.den h hs2
  have hz : (if false = true then -(q.den : Int) else q.den) = q.den := by rw [if_neg (by decide)]
  rw [hz] at c2
  have hn : ((q.den : Int)).natAbs = q.den := by simp
  obtain ⟨a1, l1, k1, u2, rfl, hu1, hu2⟩ := h
  obtain ⟨a2, k2, rfl, hr2⟩ := id hu2
  clear hr2 hu1 hz hs hs2 hu2
  unfold RInt
  obtain ⟨base, hbase⟩ : ∃ b, b = w.heap.size := ⟨_, rfl⟩
  rw [← hbase] at c1 ⊢
  have HB := Lib.hid hbase
  have HN := Lib.hid hn
  clear hbase hn
  obtain ⟨zz, hzz⟩ : ∃ z, z = (q.den : Int) := ⟨_, rfl⟩
  rw [← hzz] at c2 ⊢
  clear hzz HN
  generalize decide (q.num < 0) = b1 at *
  generalize (D.wd (q.den - 1)).length = l2 at *
  generalize q.den = d at *
  go_enter Tryz.func56, Tryz.ntmps56
  go_upto_region 1 with fail
  ((obtain ⟨X, hXX⟩ : ∃ z, z = w.heap.size := ⟨_, rfl⟩); (have bV0 := ((Bx.new_at w #[.bool b1, .slice a1 l1 k1, .slice a2 l2 k2] 45 (n := X) (by simp [hXX])).alloc (.cells #[.bool false, .slice none 0 0] 43))); (have bV1 := (Bx.new_at (w.alloc (.cells #[.bool b1, .slice a1 l1 k1, .slice a2 l2 k2] 45)) #[.bool false, .slice none 0 0] 43 (n := X + 1) (by simp [hXX]))); (have hV := (((In.self w).alloc (.cells #[.bool b1, .slice a1 l1 k1, .slice a2 l2 k2] 45)).alloc (.cells #[.bool false, .slice none 0 0] 43))); (rw [← hXX] at hV ⊢); (have HX := Lib.hid hXX); (clear hXX); (generalize (w.alloc (.cells #[.bool b1, .slice a1 l1 k1, .slice a2 l2 k2] 45)).alloc (.cells #[.bool false, .slice none 0 0] 43) = V at *))
  have hin : In base w V := by rw [HB.out, ← HX.out]; exact hV
  have hZb : base ≤ X + 1 := by rw [HB.out, ← HX.out]; omega
  clear hV HX
  generalize hZ : X + 1 = Z at *
  have hZ' := Lib.hid hZ
  clear hZ
  have bZ := bV1
  clear bV1
  skip
  ((have p0 := bV0.c0); (have p1 := bV0.c1); (have p2 := bV0.c2); (have pl := bV0.lt))
  ((go_wp2_with fail); (((with_reducible refine (c1 _ hin.bel).mono ?_))); (rintro e wc1 ⟨v, rfl, hv, hb⟩); (clear p0 p1 p2 pl c1); (replace hin := hin.call hb); (replace bV0 := bV0.call hb); (replace bZ := bZ.call hb); (clear hb))
  ((go_wp2_with fail); (((with_reducible refine (c2 _ _ hv).mono ?_))); (rintro e wc2 ⟨⟨v2, rfl, hz⟩, hb⟩); (clear c2); (replace hin := hin.call hb); (replace hv := hv.call hb); (replace bV0 := bV0.call hb); (replace bZ := bZ.call hb); (clear hb))
  ((obtain ⟨zu, rfl, zh⟩ := hz); (obtain ⟨za, zc, rfl, zr⟩ := id zh); (clear zr); (obtain ⟨sg, hsg⟩ : ∃ s, s = decide (zz < 0) := ⟨_, rfl⟩); (rw [← hsg]); (have HSG := Lib.hid hsg); (clear hsg); (have p0 := bZ.c0); (have p1 := bZ.c1); (have pf0 := bZ.frozen 0); (have pf1 := bZ.frozen 1); (have pl := bZ.lt); (have KV := Lib.hid ((zh.put bZ.c0 (by intro z; simp) (.bool (sg))).put (bZ.set 0 (.bool (sg))).c1 (by intro z; simp) (.slice za (D.wd (zz.natAbs)).length zc))); (have KI := Lib.hid ((hin.setCell (p := ⟨Z, 0, none⟩) hZb (.bool (sg))).setCell (p := ⟨Z, 1, none⟩) hZb (.slice za (D.wd (zz.natAbs)).length zc))); (have KS := Lib.hid ((bZ.set 0 (.bool (sg))).set 1 (.slice za (D.wd (zz.natAbs)).length zc))); (clear bZ zh hin); (go_wp2_with fail); (clear p0 p1 pf0 pf1 pl); (have KB := KS.out); (simp only [List.set] at KB); (have p0 := KB.c0); (have p1 := KB.c1); (exact bodyPost_ret (v := .agg #[.bool (sg), (.slice za (D.wd (zz.natAbs)).length zc)]) (by simp [results, Tryz.results56, go_sem, p0, p1]) rfl ⟨⟨_, rfl, _, by rw [HSG.out], KV.out⟩, KI.out.bel⟩))
set_option maxRecDepth 100000 in
set_option maxHeartbeats 1000000 in
theorem rfint_any (x : Int) (h0 : -9223372036854775808 ≤ x) (h1 : x < 9223372036854775808) (w : World) :
    Calls Tryz.prog 60 #[.int .i64 x] w fun e w' => RFrac w (x : Rat) e w' := by
  have c1 := zof_any x h0 h1
  unfold RFrac
  obtain ⟨base, hbase⟩ : ∃ b, b = w.heap.size := ⟨_, rfl⟩
  have hin : In base w w := by rw [hbase]; exact In.self w
  rw [← hbase]
  have HB := Lib.hid hbase
  clear hbase
  go_enter Tryz.func60, Tryz.ntmps60
  go_upto_region 1 with fail
  skip
  ((obtain ⟨Z, hZ⟩ : ∃ z, z = w.heap.size := ⟨_, rfl⟩); (have bZ := Bx.new_at w #[.bool false, .slice none 0 0, .slice none 0 0] 45 hZ); (have hZb : base ≤ Z := by have := HB.out; omega); (replace hin := hin.alloc (.cells #[.bool false, .slice none 0 0, .slice none 0 0] 45)); (rw [← hZ]); (clear hZ); (generalize w.alloc (.cells #[.bool false, .slice none 0 0, .slice none 0 0] 45) = W1 at *))
  ((go_wp2_with fail); (((with_reducible refine (c1 _).mono ?_))); (rintro e wc2 ⟨⟨v2, rfl, hz⟩, hb⟩); (clear c1); (replace hin := hin.call hb); (replace bZ := bZ.call hb); (clear hb))
  obtain ⟨zu, rfl, zh⟩ := hz
  obtain ⟨za, zc, rfl, zr⟩ := id zh
  clear zr
  obtain ⟨sg, hsg⟩ : ∃ s, s = decide (x < 0) := ⟨_, rfl⟩
  rw [← hsg]
  have HSG := Lib.hid hsg
  clear hsg
  have hm : ∀ W, NV W (.slice none 0 0) 0 := fun W => NV.zero W
  have hm := hm wc2
  ((have p0 := bZ.c0); (have p1 := bZ.c1); (have p2 := bZ.c2); (have pf0 := bZ.frozen 0); (have pf1 := bZ.frozen 1); (have pf2 := bZ.frozen 2); (have pl := bZ.lt); (have KV := Lib.hid (((zh.put bZ.c0 (by intro z; simp) (.bool (sg))).put (bZ.set 0 (.bool (sg))).c1 (by intro z; simp) (.slice (za) ((D.wd x.natAbs).length) (zc))).put ((bZ.set 0 (.bool (sg))).set 1 (.slice (za) ((D.wd x.natAbs).length) (zc))).c2 (by intro z; simp) (.slice (none) (0) (0)))); (have KM := Lib.hid (((hm.put bZ.c0 (by intro z; simp) (.bool (sg))).put (bZ.set 0 (.bool (sg))).c1 (by intro z; simp) (.slice (za) ((D.wd x.natAbs).length) (zc))).put ((bZ.set 0 (.bool (sg))).set 1 (.slice (za) ((D.wd x.natAbs).length) (zc))).c2 (by intro z; simp) (.slice (none) (0) (0)))); (have KI := Lib.hid (((hin.setCell (p := ⟨Z, 0, none⟩) hZb (.bool (sg))).setCell (p := ⟨Z, 1, none⟩) hZb (.slice (za) ((D.wd x.natAbs).length) (zc))).setCell (p := ⟨Z, 2, none⟩) hZb (.slice (none) (0) (0)))); (have KS := Lib.hid (((bZ.set 0 (.bool (sg))).set 1 (.slice (za) ((D.wd x.natAbs).length) (zc))).set 2 (.slice (none) (0) (0)))); (clear bZ zh hm hin); (go_wp2_with fail); (clear p0 p1 p2 pf0 pf1 pf2 pl); (have KB := KS.out); (simp only [List.set] at KB); (have p0 := KB.c0); (have p1 := KB.c1); (have p2 := KB.c2); (exact bodyPost_ret (v := .agg #[(.bool (sg)), (.slice (za) ((D.wd x.natAbs).length) (zc)), (.slice (none) (0) (0))]) (by simp [results, Tryz.results60, go_sem, p0, p1, p2]) rfl ⟨⟨_, rfl, ⟨za, (D.wd x.natAbs).length, zc, .slice none 0 0, by rw [HSG.out, Rat.num_intCast], by rw [Rat.num_intCast]; exact KV.out, by rw [Rat.den_intCast]; exact KM.out⟩⟩, KI.out.bel⟩))
end Gus
end
section
/- The reference's fractions: From. -/
namespace Gus
open Go Go.RowKit Go.Proofs
theorem lowest {n : Int} {d : Nat} {q : Rat} (hd : 0 < d) (h : n * q.den = q.num * d) :
    ∃ g, 0 < g ∧ Nat.gcd n.natAbs d = g ∧ n.natAbs = q.num.natAbs * g ∧ d = q.den * g := by
  have h1 : n.natAbs * q.den = q.num.natAbs * d := by
    have := congrArg Int.natAbs h
    rwa [Int.natAbs_mul, Int.natAbs_mul, Int.natAbs_natCast, Int.natAbs_natCast] at this
  have hco : Nat.Coprime q.den q.num.natAbs := q.reduced.symm
  have hdv : q.den ∣ d := hco.dvd_of_dvd_mul_left ⟨n.natAbs, by rw [← h1, Nat.mul_comm]⟩
  obtain ⟨g, rfl⟩ := hdv
  have hq := q.den_pos
  have hg : 0 < g := Nat.pos_of_mul_pos_left hd
  have h2 : n.natAbs = q.num.natAbs * g := by
    have : n.natAbs * q.den = (q.num.natAbs * g) * q.den := by rw [h1, Nat.mul_comm q.den g, ← Nat.mul_assoc]
    exact Nat.eq_of_mul_eq_mul_right hq this
  refine ⟨g, hg, ?_, h2, rfl⟩
  rw [h2, Nat.gcd_mul_right, Nat.gcd_comm, hco, Nat.one_mul]
set_option maxRecDepth 100000 in
set_option maxHeartbeats 2000000 in
theorem rffrom_any (w : World) (v1 v2 : Value) (n : Int) (d : Nat) (q : Rat) (hd : 0 < d) (hq : n * q.den = q.num * d) (h1 : ZV w v1 n) (h2 : NV w v2 d)
    (hs1 : (D.wd n.natAbs).length ≤ 549755813888) (hs2 : (D.wd d).length ≤ 549755813888) (hs3 : (D.wd q.num.natAbs).length ≤ 549755813888) (hs4 : (D.wd q.den).length ≤ 549755813888) :
    Calls Tryz.prog 53 #[v1, v2] w fun e w' => RFrac w q e w' := by
  obtain ⟨g, hg0, hgg, hng, hdg⟩ := lowest hd hq
  obtain ⟨u1, rfl, hu1⟩ := h1
  obtain ⟨a1, k1, rfl, hr1⟩ := id hu1
  obtain ⟨a2, k2, rfl, hr2⟩ := id h2
  clear hr1 hr2
  have c1 := fun W (hb : Below w.heap.size w W) => rgcd_any W _ _ _ _ (hu1.call hb) (h2.call hb) hs1 hs2
  have c2 := fun W vg (hb : Below w.heap.size w W) (hg : NV W vg g) => rdiv_any W _ vg n.natAbs g hg0 (hu1.call hb) hg hs1
  have c3 := fun W vg (hb : Below w.heap.size w W) (hg : NV W vg g) => rdiv_any W _ vg d g hg0 (h2.call hb) hg hs2
  unfold RDiv at c2 c3
  rw [show n.natAbs / g = q.num.natAbs by rw [hng]; exact Nat.mul_div_cancel _ hg0] at c2
  rw [show d / g = q.den by rw [hdg]; exact Nat.mul_div_cancel _ hg0] at c3
  rw [hgg] at c1
  have hsg : decide (n < 0) = decide (q.num < 0) := by
    rw [decide_eq_decide]
    have hdp : (0 : Int) < d := by omega
    have hqp : (0 : Int) < q.den := by have := q.den_pos; omega
    constructor
    · intro h
      have h5 := Int.mul_neg_of_neg_of_pos h hqp
      rw [hq] at h5
      rcases Int.lt_trichotomy q.num 0 with h6 | h6 | h6
      · exact h6
      · rw [h6, Int.zero_mul] at h5; omega
      · have := Int.mul_pos h6 hdp; omega
    · intro h
      have h5 := Int.mul_neg_of_neg_of_pos h hdp
      rw [← hq] at h5
      rcases Int.lt_trichotomy n 0 with h6 | h6 | h6
      · exact h6
      · rw [h6, Int.zero_mul] at h5; omega
      · have := Int.mul_pos h6 hqp; omega
  rw [hsg]
  have c4 := fun W u (h : NV W u q.num.natAbs) => zfrom_any W (decide (q.num < 0)) u q.num.natAbs h (by omega)
  have hz : (if (decide (q.num < 0)) = true then -(q.num.natAbs : Int) else q.num.natAbs) = q.num := by
    by_cases h : q.num < 0 <;> simp only [h, decide_true, decide_false, if_true, Bool.false_eq_true, if_false] <;> omega
  rw [hz] at c4
  have c5 := fun W u uo (h : NV W u q.den) (ho : NV W uo 1) => rsub_any W u uo q.den 1 q.den_pos h ho (by omega)
  unfold RFrac
  obtain ⟨base, hbase⟩ : ∃ b, b = w.heap.size := ⟨_, rfl⟩
  rw [← hbase] at c1 c2 c3 ⊢
  have HB := Lib.hid hbase
  clear hbase hz hsg hs1 hs2 hs3 hs4 hgg hng hdg hu1 h2 hq hd hg0
  obtain ⟨b1, hb1⟩ : ∃ b, b = decide (q.num < 0) := ⟨_, rfl⟩
  rw [← hb1] at c4 ⊢
  have HB1 := Lib.hid hb1
  clear hb1
  generalize (D.wd n.natAbs).length = l1 at *
  generalize (D.wd d).length = l2 at *
  go_enter Tryz.func53, Tryz.ntmps53
  go_upto_region 1 with fail
  ((obtain ⟨X, hXX⟩ : ∃ z, z = w.heap.size := ⟨_, rfl⟩); (have bV0 := ((Bx.new_at w #[.bool b1, .slice a1 l1 k1] 43 (n := X) (by simp [hXX])).alloc (.cells #[.bool false, .slice none 0 0, .slice none 0 0] 45))); (have bV1 := (Bx.new_at (w.alloc (.cells #[.bool b1, .slice a1 l1 k1] 43)) #[.bool false, .slice none 0 0, .slice none 0 0] 45 (n := X + 1) (by simp [hXX]))); (have hV := (((In.self w).alloc (.cells #[.bool b1, .slice a1 l1 k1] 43)).alloc (.cells #[.bool false, .slice none 0 0, .slice none 0 0] 45))); (rw [← hXX] at hV ⊢); (have HX := Lib.hid hXX); (clear hXX); (generalize (w.alloc (.cells #[.bool b1, .slice a1 l1 k1] 43)).alloc (.cells #[.bool false, .slice none 0 0, .slice none 0 0] 45) = V at *))
  have hin : In base w V := by rw [HB.out, ← HX.out]; exact hV
  have hZb : base ≤ X + 1 := by rw [HB.out, ← HX.out]; omega
  clear hV HX
  generalize hZ : X + 1 = Z at *
  have hZ' := Lib.hid hZ
  clear hZ
  have bZ := bV1
  clear bV1
  skip
  ((have p0 := bV0.c0); (have p1 := bV0.c1); (have pl := bV0.lt))
  ((go_wp2_with fail); (((with_reducible refine (c1 _ hin.bel).mono ?_))); (rintro e wc1 ⟨vg, rfl, hg, hb⟩); (clear p0 p1 pl c1); (replace hin := hin.call hb); (replace bV0 := bV0.call hb); (replace bZ := bZ.call hb); (clear hb))
  ((have p0 := bV0.c0); (have p1 := bV0.c1); (have pl := bV0.lt))
  ((go_wp2_with fail); (((with_reducible refine (c2 _ _ hin.bel hg).mono ?_))); (rintro e wc2 ⟨v3, r3, rfl, hv3, hr3, hb⟩); (clear p0 p1 pl c2); (replace hin := hin.call hb); (replace hg := hg.call hb); (replace bV0 := bV0.call hb); (replace bZ := bZ.call hb); (clear hb))
  clear hr3
  ((go_wp2_with fail); (((with_reducible refine (c3 _ _ hin.bel hg).mono ?_))); (rintro e wc3 ⟨v4, r4, rfl, hv4, hr4, hb⟩); (clear c3); (replace hin := hin.call hb); (replace hg := hg.call hb); (replace hv3 := hv3.call hb); (replace bV0 := bV0.call hb); (replace bZ := bZ.call hb); (clear hb))
  clear hr4
  ((have p0 := bV0.c0); (have p1 := bV0.c1); (have pl := bV0.lt))
  ((go_wp2_with fail); (((with_reducible refine (c4 _ _ hv3).mono ?_))); (rintro e wc4 ⟨⟨v5, rfl, hz⟩, hb⟩); (clear p0 p1 pl c4); (replace hin := hin.call hb); (replace hg := hg.call hb); (replace hv3 := hv3.call hb); (replace hv4 := hv4.call hb); (replace bV0 := bV0.call hb); (replace bZ := bZ.call hb); (clear hb))
  ((go_wp2_with fail); (((with_reducible refine (rfone_any _).mono ?_))); (rintro e wc5 ⟨v6, rfl, hv6, hb⟩); (skip); (replace hin := hin.call hb); (replace hg := hg.call hb); (replace hv3 := hv3.call hb); (replace hv4 := hv4.call hb); (replace hz := hz.call hb); (replace bV0 := bV0.call hb); (replace bZ := bZ.call hb); (clear hb))
  ((go_wp2_with fail); (((with_reducible refine (c5 _ _ _ hv4 hv6).mono ?_))); (rintro e wc6 ⟨v7, rfl, hm, hb⟩); (clear c5); (replace hin := hin.call hb); (replace hg := hg.call hb); (replace hv3 := hv3.call hb); (replace hv4 := hv4.call hb); (replace hz := hz.call hb); (replace hv6 := hv6.call hb); (replace bV0 := bV0.call hb); (replace bZ := bZ.call hb); (clear hb))
  obtain ⟨zu, rfl, zh⟩ := hz
  obtain ⟨za, zc, rfl, zr⟩ := id zh
  obtain ⟨ma, mc, rfl, mr⟩ := id hm
  clear zr mr
  rw [← HB1.out]
  ((have p0 := bZ.c0); (have p1 := bZ.c1); (have p2 := bZ.c2); (have pf0 := bZ.frozen 0); (have pf1 := bZ.frozen 1); (have pf2 := bZ.frozen 2); (have pl := bZ.lt); (have KV := Lib.hid (((zh.put bZ.c0 (by intro z; simp) (.bool (b1))).put (bZ.set 0 (.bool (b1))).c1 (by intro z; simp) (.slice (za) ((D.wd q.num.natAbs).length) (zc))).put ((bZ.set 0 (.bool (b1))).set 1 (.slice (za) ((D.wd q.num.natAbs).length) (zc))).c2 (by intro z; simp) (.slice (ma) ((D.wd (q.den - 1)).length) (mc)))); (have KM := Lib.hid (((hm.put bZ.c0 (by intro z; simp) (.bool (b1))).put (bZ.set 0 (.bool (b1))).c1 (by intro z; simp) (.slice (za) ((D.wd q.num.natAbs).length) (zc))).put ((bZ.set 0 (.bool (b1))).set 1 (.slice (za) ((D.wd q.num.natAbs).length) (zc))).c2 (by intro z; simp) (.slice (ma) ((D.wd (q.den - 1)).length) (mc)))); (have KI := Lib.hid (((hin.setCell (p := ⟨Z, 0, none⟩) hZb (.bool (b1))).setCell (p := ⟨Z, 1, none⟩) hZb (.slice (za) ((D.wd q.num.natAbs).length) (zc))).setCell (p := ⟨Z, 2, none⟩) hZb (.slice (ma) ((D.wd (q.den - 1)).length) (mc)))); (have KS := Lib.hid (((bZ.set 0 (.bool (b1))).set 1 (.slice (za) ((D.wd q.num.natAbs).length) (zc))).set 2 (.slice (ma) ((D.wd (q.den - 1)).length) (mc)))); (clear bZ zh hm hin); (go_wp2_with fail); (clear p0 p1 p2 pf0 pf1 pf2 pl); (have KB := KS.out); (simp only [List.set] at KB); (have p0 := KB.c0); (have p1 := KB.c1); (have p2 := KB.c2); (exact bodyPost_ret (v := .agg #[(.bool (b1)), (.slice (za) ((D.wd q.num.natAbs).length) (zc)), (.slice (ma) ((D.wd (q.den - 1)).length) (mc))]) (by simp [results, Tryz.results53, go_sem, p0, p1, p2]) rfl ⟨⟨_, rfl, ⟨za, (D.wd q.num.natAbs).length, zc, _, by rw [HB1.out], KV.out, KM.out⟩⟩, KI.out.bel⟩))
end Gus
end
section
/- The reference's fractions: Mul. -/
namespace Gus
open Go Go.RowKit Go.Proofs
theorem cross {n : Int} {d : Nat} {q : Rat} (hd : d ≠ 0) (h : q = mkRat n d) : n * q.den = q.num * d :=
  ((Rat.mkRat_eq_iff q.den_nz hd).1 (by rw [Rat.mkRat_self]; exact h)).symm
theorem wd_lt_pow (n : Nat) : n < 10000 ^ (D.wd n).length := by
  have h := D.wd_val n
  have h2 := D.val_lt (D.wd_digs n)
  rw [h] at h2; exact h2
theorem wd_mul (m n : Nat) : (D.wd (m * n)).length ≤ (D.wd m).length + (D.wd n).length := by
  refine D.wd_length ?_
  rw [Nat.pow_add]
  exact Nat.mul_lt_mul'' (wd_lt_pow m) (wd_lt_pow n)
theorem wd_add (m n : Nat) {k : Nat} (h1 : (D.wd m).length ≤ k) (h2 : (D.wd n).length ≤ k) : (D.wd (m + n)).length ≤ k + 1 := by
  refine D.wd_length ?_
  have e1 := Nat.lt_of_lt_of_le (wd_lt_pow m) (Nat.pow_le_pow_right (by decide) h1)
  have e2 := Nat.lt_of_lt_of_le (wd_lt_pow n) (Nat.pow_le_pow_right (by decide) h2)
  rw [Nat.pow_succ]
  omega
def FVr (q : Rat) (v : Value) (w : World) : Prop := FV w v q
theorem stable_fv (q : Rat) : Stable (FVr q) := fun _ _ _ h hs => FV.call h hs
theorem FVr.v {q : Rat} {v : Value} {w : World} (h : FVr q v w) : FV w v q := h
theorem ZVr.v {q : Int} {v : Value} {w : World} (h : ZVr q v w) : ZV w v q := h
/-- lengths of a fraction's parts -/
def FS (k : Nat) (q : Rat) : Prop := (D.wd q.num.natAbs).length ≤ k ∧ (D.wd q.den).length ≤ k
theorem FS.more {k : Nat} {q : Rat} (h : FS k q) : (D.wd (q.den - 1)).length ≤ k := Nat.le_trans (D.wd_mono (Nat.sub_le _ _)) h.2
theorem lowest_fs {n : Int} {d k : Nat} {q : Rat} (hd : 0 < d) (h : n * q.den = q.num * d) (h1 : (D.wd n.natAbs).length ≤ k) (h2 : (D.wd d).length ≤ k) : FS k q := by
  obtain ⟨g, hg, _, e1, e2⟩ := lowest hd h
  exact ⟨Nat.le_trans (D.wd_mono (by rw [e1]; exact Nat.le_mul_of_pos_right _ hg)) h1, Nat.le_trans (D.wd_mono (by rw [e2]; exact Nat.le_mul_of_pos_right _ hg)) h2⟩
theorem rffrom_fs (w : World) (v1 v2 : Value) (n : Int) (d : Nat) (q : Rat) (hd : 0 < d) (hq : n * q.den = q.num * d) (h1 : ZV w v1 n) (h2 : NV w v2 d)
    (hs1 : (D.wd n.natAbs).length ≤ 549755813888) (hs2 : (D.wd d).length ≤ 549755813888) :
    Calls Tryz.prog 53 #[v1, v2] w fun e w' => RFrac w q e w' :=
  rffrom_any w v1 v2 n d q hd hq h1 h2 hs1 hs2 (lowest_fs hd hq hs1 hs2).1 (lowest_fs hd hq hs1 hs2).2
theorem mul_mkrat (x y : Rat) : x * y = mkRat (x.num * y.num) (x.den * y.den) := by
  rw [Rat.mul_def, Rat.normalize_eq_mkRat]
end Gus
end
section
/- The reference's fractions: Mul. -/
namespace Gus
open Go Go.RowKit Go.Proofs
set_option maxRecDepth 100000 in
set_option maxHeartbeats 2000000 in
theorem rfmul_any (w : World) (v1 v2 : Value) (x y : Rat) (h1 : FV w v1 x) (h2 : FV w v2 y) (hs1 : FS 1073741824 x) (hs2 : FS 1073741824 y) :
    Calls Tryz.prog 93 #[v1, v2] w fun e w' => RFrac w (x * y) e w' := by
  have hm1 := wd_mul x.num.natAbs y.num.natAbs
  rw [← Int.natAbs_mul] at hm1
  have hm2 := wd_mul x.den y.den
  have g1 := hs1.1
  have g2 := hs1.2
  have g3 := hs2.1
  have g4 := hs2.2
  have g5 := hs1.more
  have g6 := hs2.more
  have hdp : 0 < x.den * y.den := Nat.mul_pos x.den_pos y.den_pos
  have hcr := cross (Nat.ne_of_gt hdp) (mul_mkrat x y)
  have cB := fun W (hb : Below w.heap.size w W) => (rfden_any W v1 x (h1.call hb) (by omega)).mono fun _ _ => RNat.rel
  have cC := fun W (hb : Below w.heap.size w W) => (rfden_any W v2 y (h2.call hb) (by omega)).mono fun _ _ => RNat.rel
  have cD := fun W u1 u2 (hu1 : NV W u1 x.den) (hu2 : NV W u2 y.den) => (rmul_any W u1 u2 _ _ hu1 hu2 (by omega) (by omega)).mono fun _ _ => RNat.rel
  have cE := fun W u1 u2 (hu1 : ZV W u1 (x.num * y.num)) (hu2 : NV W u2 (x.den * y.den)) => rffrom_fs W u1 u2 _ _ (x * y) hdp hcr hu1 hu2 (by omega) (by omega)
  obtain ⟨a1, l1, k1, u1, rfl, hu1, hm1'⟩ := h1
  obtain ⟨a2, l2, k2, u2, rfl, hu2, hm2'⟩ := h2
  obtain ⟨c1, d1, rfl, _⟩ := id hm1'
  obtain ⟨c2, d2, rfl, _⟩ := id hm2'
  have cA := fun W (hb : Below w.heap.size w W) => zmul_any W _ _ x.num y.num ⟨_, rfl, hu1.call hb⟩ ⟨_, rfl, hu2.call hb⟩ (by omega) (by omega) (by omega)
  clear hm1 hm2 g1 g2 g3 g4 g5 g6 hs1 hs2 hdp hcr hu1 hu2 hm1' hm2'
  unfold RFrac at cE ⊢
  unfold RInt at cA
  obtain ⟨base, hbase⟩ : ∃ b, b = w.heap.size := ⟨_, rfl⟩
  rw [← hbase] at cA cB cC ⊢
  have HB := Lib.hid hbase
  clear hbase
  generalize decide (x.num < 0) = b1 at *
  generalize decide (y.num < 0) = b2 at *
  generalize (D.wd (x.den - 1)).length = m1 at *
  generalize (D.wd (y.den - 1)).length = m2 at *
  generalize hq : x * y = q at *
  generalize x.num * y.num = pn at *
  generalize x.den * y.den = pd at *
  generalize x.den = xd at *
  generalize y.den = yd at *
  have HQ := Lib.hid hq
  clear hq
  go_enter Tryz.func93, Tryz.ntmps93
  go_upto_region 1 with fail
  ((obtain ⟨X, hXX⟩ : ∃ z, z = w.heap.size := ⟨_, rfl⟩); (have bV0 := (((Bx.new_at w #[.bool b1, .slice a1 l1 k1, .slice c1 m1 d1] 45 (n := X) (by simp [hXX])).alloc (.cells #[.bool b2, .slice a2 l2 k2, .slice c2 m2 d2] 45)).alloc (.cells #[.bool false, .slice none 0 0, .slice none 0 0] 45))); (have bV1 := ((Bx.new_at (w.alloc (.cells #[.bool b1, .slice a1 l1 k1, .slice c1 m1 d1] 45)) #[.bool b2, .slice a2 l2 k2, .slice c2 m2 d2] 45 (n := X + 1) (by simp [hXX])).alloc (.cells #[.bool false, .slice none 0 0, .slice none 0 0] 45))); (have bV2 := (Bx.new_at ((w.alloc (.cells #[.bool b1, .slice a1 l1 k1, .slice c1 m1 d1] 45)).alloc (.cells #[.bool b2, .slice a2 l2 k2, .slice c2 m2 d2] 45)) #[.bool false, .slice none 0 0, .slice none 0 0] 45 (n := X + 1 + 1) (by simp [hXX]))); (have hV := ((((In.self w).alloc (.cells #[.bool b1, .slice a1 l1 k1, .slice c1 m1 d1] 45)).alloc (.cells #[.bool b2, .slice a2 l2 k2, .slice c2 m2 d2] 45)).alloc (.cells #[.bool false, .slice none 0 0, .slice none 0 0] 45))); (rw [← hXX] at hV ⊢); (have HX := Lib.hid hXX); (clear hXX); (generalize ((w.alloc (.cells #[.bool b1, .slice a1 l1 k1, .slice c1 m1 d1] 45)).alloc (.cells #[.bool b2, .slice a2 l2 k2, .slice c2 m2 d2] 45)).alloc (.cells #[.bool false, .slice none 0 0, .slice none 0 0] 45) = V at *))
  have hin : In base w V := by rw [HB.out, ← HX.out]; exact hV
  have hZb : base ≤ X + 1 + 1 := by rw [HB.out, ← HX.out]; omega
  clear hV HX
  skip
  ((have p0 := bV0.c0); (have p1 := bV0.c1); (have p2 := bV0.c2); (have pl := bV0.lt))
  ((have q0 := bV1.c0); (have q1 := bV1.c1); (have q2 := bV1.c2); (have ql := bV1.lt))
  have h := In.self V; have hc := h.cell; have hf := h.frozen; refine wp_region_flow 11 (by kernel_rfl) (by kernel_rfl) (fun _ _ d _ _ h => by cases d <;> exact h) ?_; simp only [List.take_succ_cons, List.take_zero, List.drop_succ_cons, List.drop_zero]; simp only [putAll, Act.put, List.setIfInBounds_toArray, List.set]; (try simp only [Nat.reduceAdd]); (try simp only [Nat.zero_add]); (repeat (first | ((with_reducible refine flow_float (v := ?_) ?_ ?_ ?_); rotate_left 1; (focus (with_reducible rfl)); (focus (intro u w1 hw hd w2; (try simp only [depH] at hd); (try simp only [ext] at hd); (try simp only [extU] at hd); (try simp only [Nat.reduceAdd] at hd); (try simp only [Nat.reduceEqDiff] at hd); (try simp only [reduceIte] at hd); (try simp only [and_true] at hd); (try simp only [true_and] at hd); go_simp; exact rfl))) | ((first | ((with_reducible refine flow_pure0 (v := ?_) ?_ ?_ ?_ ?_); rotate_left 1; (focus (with_reducible rfl)); (focus rfl)) | ((with_reducible refine flow_pureg (v := ?_) (j := ?_) (b := ?_) ?_ ?_ ?_ ?_); rotate_left 3; (focus (with_reducible rfl)); (focus (intro u w1 hw hd; (try simp only [depH] at hd); (try simp only [ext] at hd); (try simp only [extU] at hd); (try simp only [Nat.reduceAdd] at hd); (try simp only [Nat.reduceEqDiff] at hd); (try simp only [reduceIte] at hd); (try simp only [and_true] at hd); (try simp only [true_and] at hd); simp [yielded, hd]; done)))); (focus (intro u w1 hw hd; (try simp only [depH] at hd); (try simp only [ext] at hd); (try simp only [extU] at hd); (try simp only [Nat.reduceAdd] at hd); (try simp only [Nat.reduceEqDiff] at hd); (try simp only [reduceIte] at hd); (try simp only [and_true] at hd); (try simp only [true_and] at hd); have hc' := hw.cell; go_simp; exact rfl))) | ((with_reducible refine flow_skipg (j := ?_) (b := ?_) ?_ ?_ ?_); rotate_left 2; (focus (with_reducible rfl)); (focus (intro u w1 hw hd; (try simp only [depH] at hd); (try simp only [ext] at hd); (try simp only [extU] at hd); (try simp only [Nat.reduceAdd] at hd); (try simp only [Nat.reduceEqDiff] at hd); (try simp only [reduceIte] at hd); (try simp only [and_true] at hd); (try simp only [true_and] at hd); simp [yielded, hd]; done))) | ((with_reducible refine flow_alloc (t := ?_) (zs := ?_) ?_ ?_ ?_ ?_); rotate_left 2; (focus (with_reducible rfl)); (focus rfl); (focus (intro u w1; go_simp; exact rfl)))))
  (with_reducible refine flow_rel (Vi := ZVr pn) false ?_ ?_ ?_ ?_ ?_ ?_); (focus rfl); (focus rfl); (focus exact stable_zv _); (focus exact placed_false _); (focus (intro u w1 hw hd; (try simp only [depH] at hd); (try simp only [ext] at hd); (try simp only [extU] at hd); (try simp only [Nat.reduceAdd] at hd); (try simp only [Nat.reduceEqDiff] at hd); (try simp only [reduceIte] at hd); (try simp only [and_true] at hd); (try simp only [true_and] at hd); have hc' := hw.cell; go_simp; (try simp only [okUpon]); go_at_call 55; ((with_reducible refine (cA _ (hin.call hw.ins.bel).bel).mono ?_)); rintro e w'' ⟨⟨v, rfl, hv⟩, hb⟩; exact ⟨v, rfl, ⟨hv, fun h => by cases h⟩, hb⟩))
  (repeat (first | ((with_reducible refine flow_float (v := ?_) ?_ ?_ ?_); rotate_left 1; (focus (with_reducible rfl)); (focus (intro u w1 hw hd w2; (try simp only [depH] at hd); (try simp only [ext] at hd); (try simp only [extU] at hd); (try simp only [Nat.reduceAdd] at hd); (try simp only [Nat.reduceEqDiff] at hd); (try simp only [reduceIte] at hd); (try simp only [and_true] at hd); (try simp only [true_and] at hd); go_simp; exact rfl))) | ((first | ((with_reducible refine flow_pure0 (v := ?_) ?_ ?_ ?_ ?_); rotate_left 1; (focus (with_reducible rfl)); (focus rfl)) | ((with_reducible refine flow_pureg (v := ?_) (j := ?_) (b := ?_) ?_ ?_ ?_ ?_); rotate_left 3; (focus (with_reducible rfl)); (focus (intro u w1 hw hd; (try simp only [depH] at hd); (try simp only [ext] at hd); (try simp only [extU] at hd); (try simp only [Nat.reduceAdd] at hd); (try simp only [Nat.reduceEqDiff] at hd); (try simp only [reduceIte] at hd); (try simp only [and_true] at hd); (try simp only [true_and] at hd); simp [yielded, hd]; done)))); (focus (intro u w1 hw hd; (try simp only [depH] at hd); (try simp only [ext] at hd); (try simp only [extU] at hd); (try simp only [Nat.reduceAdd] at hd); (try simp only [Nat.reduceEqDiff] at hd); (try simp only [reduceIte] at hd); (try simp only [and_true] at hd); (try simp only [true_and] at hd); have hc' := hw.cell; go_simp; exact rfl))) | ((with_reducible refine flow_skipg (j := ?_) (b := ?_) ?_ ?_ ?_); rotate_left 2; (focus (with_reducible rfl)); (focus (intro u w1 hw hd; (try simp only [depH] at hd); (try simp only [ext] at hd); (try simp only [extU] at hd); (try simp only [Nat.reduceAdd] at hd); (try simp only [Nat.reduceEqDiff] at hd); (try simp only [reduceIte] at hd); (try simp only [and_true] at hd); (try simp only [true_and] at hd); simp [yielded, hd]; done))) | ((with_reducible refine flow_alloc (t := ?_) (zs := ?_) ?_ ?_ ?_ ?_); rotate_left 2; (focus (with_reducible rfl)); (focus rfl); (focus (intro u w1; go_simp; exact rfl)))))
  (with_reducible refine flow_rel (Vi := NVr xd) false ?_ ?_ ?_ ?_ ?_ ?_); (focus rfl); (focus rfl); (focus exact stable_nv _); (focus exact placed_false _); (focus (intro u w1 hw hd; (try simp only [depH] at hd); (try simp only [ext] at hd); (try simp only [extU] at hd); (try simp only [Nat.reduceAdd] at hd); (try simp only [Nat.reduceEqDiff] at hd); (try simp only [reduceIte] at hd); (try simp only [and_true] at hd); (try simp only [true_and] at hd); have hc' := hw.cell; go_simp; (try simp only [okUpon]); go_at_call 58; ((with_reducible refine (cB _ (hin.call hw.ins.bel).bel).mono ?_)); rintro e w'' ⟨⟨v, rfl, hv⟩, hb⟩; exact ⟨v, rfl, ⟨hv, fun h => by cases h⟩, hb⟩))
  (repeat (first | ((with_reducible refine flow_float (v := ?_) ?_ ?_ ?_); rotate_left 1; (focus (with_reducible rfl)); (focus (intro u w1 hw hd w2; (try simp only [depH] at hd); (try simp only [ext] at hd); (try simp only [extU] at hd); (try simp only [Nat.reduceAdd] at hd); (try simp only [Nat.reduceEqDiff] at hd); (try simp only [reduceIte] at hd); (try simp only [and_true] at hd); (try simp only [true_and] at hd); go_simp; exact rfl))) | ((first | ((with_reducible refine flow_pure0 (v := ?_) ?_ ?_ ?_ ?_); rotate_left 1; (focus (with_reducible rfl)); (focus rfl)) | ((with_reducible refine flow_pureg (v := ?_) (j := ?_) (b := ?_) ?_ ?_ ?_ ?_); rotate_left 3; (focus (with_reducible rfl)); (focus (intro u w1 hw hd; (try simp only [depH] at hd); (try simp only [ext] at hd); (try simp only [extU] at hd); (try simp only [Nat.reduceAdd] at hd); (try simp only [Nat.reduceEqDiff] at hd); (try simp only [reduceIte] at hd); (try simp only [and_true] at hd); (try simp only [true_and] at hd); simp [yielded, hd]; done)))); (focus (intro u w1 hw hd; (try simp only [depH] at hd); (try simp only [ext] at hd); (try simp only [extU] at hd); (try simp only [Nat.reduceAdd] at hd); (try simp only [Nat.reduceEqDiff] at hd); (try simp only [reduceIte] at hd); (try simp only [and_true] at hd); (try simp only [true_and] at hd); have hc' := hw.cell; go_simp; exact rfl))) | ((with_reducible refine flow_skipg (j := ?_) (b := ?_) ?_ ?_ ?_); rotate_left 2; (focus (with_reducible rfl)); (focus (intro u w1 hw hd; (try simp only [depH] at hd); (try simp only [ext] at hd); (try simp only [extU] at hd); (try simp only [Nat.reduceAdd] at hd); (try simp only [Nat.reduceEqDiff] at hd); (try simp only [reduceIte] at hd); (try simp only [and_true] at hd); (try simp only [true_and] at hd); simp [yielded, hd]; done))) | ((with_reducible refine flow_alloc (t := ?_) (zs := ?_) ?_ ?_ ?_ ?_); rotate_left 2; (focus (with_reducible rfl)); (focus rfl); (focus (intro u w1; go_simp; exact rfl)))))
  (with_reducible refine flow_rel (Vi := NVr yd) false ?_ ?_ ?_ ?_ ?_ ?_); (focus rfl); (focus rfl); (focus exact stable_nv _); (focus exact placed_false _); (focus (intro u w1 hw hd; (try simp only [depH] at hd); (try simp only [ext] at hd); (try simp only [extU] at hd); (try simp only [Nat.reduceAdd] at hd); (try simp only [Nat.reduceEqDiff] at hd); (try simp only [reduceIte] at hd); (try simp only [and_true] at hd); (try simp only [true_and] at hd); have hc' := hw.cell; go_simp; (try simp only [okUpon]); go_at_call 58; ((with_reducible refine (cC _ (hin.call hw.ins.bel).bel).mono ?_)); rintro e w'' ⟨⟨v, rfl, hv⟩, hb⟩; exact ⟨v, rfl, ⟨hv, fun h => by cases h⟩, hb⟩))
  (with_reducible refine flow_rel (Vi := NVr pd) false ?_ ?_ ?_ ?_ ?_ ?_); (focus rfl); (focus rfl); (focus exact stable_nv _); (focus exact placed_false _); (focus (intro u w1 hw hd; (try simp only [depH] at hd); (try simp only [ext] at hd); (try simp only [extU] at hd); (try simp only [Nat.reduceAdd] at hd); (try simp only [Nat.reduceEqDiff] at hd); (try simp only [reduceIte] at hd); (try simp only [and_true] at hd); (try simp only [true_and] at hd); obtain ⟨hd1, hd2, _⟩ := hd; have hc' := hw.cell; go_simp; (try simp only [okUpon]); go_at_call 57; ((with_reducible refine (cD _ _ _ hd1.v hd2.v).mono ?_)); rintro e w'' ⟨⟨v, rfl, hv⟩, hb⟩; exact ⟨v, rfl, ⟨hv, fun h => by cases h⟩, hb⟩))
  (with_reducible refine flow_rel (Vi := FVr q) false ?_ ?_ ?_ ?_ ?_ ?_); (focus rfl); (focus rfl); (focus exact stable_fv _); (focus exact placed_false _); (focus (intro u w1 hw hd; (try simp only [depH] at hd); (try simp only [ext] at hd); (try simp only [extU] at hd); (try simp only [Nat.reduceAdd] at hd); (try simp only [Nat.reduceEqDiff] at hd); (try simp only [reduceIte] at hd); (try simp only [and_true] at hd); (try simp only [true_and] at hd); obtain ⟨hd1, hd2, _⟩ := hd; have hc' := hw.cell; go_simp; (try simp only [okUpon]); go_at_call 53; ((with_reducible refine (cE _ _ _ hd1.v hd2.v).mono ?_)); rintro e w'' ⟨⟨v, rfl, hv⟩, hb⟩; exact ⟨v, rfl, ⟨hv, fun h => by cases h⟩, hb⟩))
  (try clear hc hf h); intro u w' h ha hdi; replace h := h.ins; (try simp only [World.size_alloc] at h); (try dsimp only at ha); (repeat rw [World.size_alloc] at ha); (try simp only [allH] at ha); (try simp only [ext] at ha); (try simp only [extU] at ha); (try simp only [Nat.reduceAdd] at ha); (try simp only [Nat.reduceEqDiff] at ha); (try simp only [reduceIte] at ha); (try simp only [and_true] at ha); (try simp only [true_and] at ha); have hc := h.cell; have hf := h.frozen; have hb := h.bel; clear hdi hc hf; clear p0 p1 p2 pl q0 q1 q2 ql cA cB cC cD cE; replace hin := hin.call hb; replace bV0 := bV0.call hb; replace bV1 := bV1.call hb; replace bV2 := bV2.call hb; clear hb h; rename World => W1
  generalize X + 1 + 1 = Z at *
  have bZ := bV2
  obtain ⟨ha, hz⟩ := ha
  replace hz : FV _ (u 10) q := hz
  clear ha bV0 bV1 bV2
  (try dsimp only)
  ((generalize u 10 = vF at *); (obtain ⟨za, zk, zc, mu, rfl, zh, hm⟩ := hz); (obtain ⟨zc2, zc3, hzk, zr⟩ := id zh); (obtain ⟨ma, mc, rfl, mr⟩ := id hm); (injection hzk with hz1 hz2 hz3); (subst hz1); (subst hz2); (subst hz3); (clear zr mr); (obtain ⟨sg, hsg⟩ : ∃ s, s = decide ((q).num < 0) := ⟨_, rfl⟩); (rw [← hsg]); (have HSG := Lib.hid hsg); (clear hsg); (((have p0 := bZ.c0); (have p1 := bZ.c1); (have p2 := bZ.c2); (have pf0 := bZ.frozen 0); (have pf1 := bZ.frozen 1); (have pf2 := bZ.frozen 2); (have pl := bZ.lt); (have KV := Lib.hid (((zh.put bZ.c0 (by intro z; simp) (.bool (sg))).put (bZ.set 0 (.bool (sg))).c1 (by intro z; simp) (.slice (za) ((D.wd (q).num.natAbs).length) (zc))).put ((bZ.set 0 (.bool (sg))).set 1 (.slice (za) ((D.wd (q).num.natAbs).length) (zc))).c2 (by intro z; simp) (.slice (ma) ((D.wd ((q).den - 1)).length) (mc)))); (have KM := Lib.hid (((hm.put bZ.c0 (by intro z; simp) (.bool (sg))).put (bZ.set 0 (.bool (sg))).c1 (by intro z; simp) (.slice (za) ((D.wd (q).num.natAbs).length) (zc))).put ((bZ.set 0 (.bool (sg))).set 1 (.slice (za) ((D.wd (q).num.natAbs).length) (zc))).c2 (by intro z; simp) (.slice (ma) ((D.wd ((q).den - 1)).length) (mc)))); (have KI := Lib.hid (((hin.setCell (p := ⟨Z, 0, none⟩) hZb (.bool (sg))).setCell (p := ⟨Z, 1, none⟩) hZb (.slice (za) ((D.wd (q).num.natAbs).length) (zc))).setCell (p := ⟨Z, 2, none⟩) hZb (.slice (ma) ((D.wd ((q).den - 1)).length) (mc)))); (have KS := Lib.hid (((bZ.set 0 (.bool (sg))).set 1 (.slice (za) ((D.wd (q).num.natAbs).length) (zc))).set 2 (.slice (ma) ((D.wd ((q).den - 1)).length) (mc)))); (clear bZ zh hm hin); (go_wp2_with fail); (clear p0 p1 p2 pf0 pf1 pf2 pl); (have KB := KS.out); (simp only [List.set] at KB); (have p0 := KB.c0); (have p1 := KB.c1); (have p2 := KB.c2); (exact bodyPost_ret (v := .agg #[(.bool (sg)), (.slice (za) ((D.wd (q).num.natAbs).length) (zc)), (.slice (ma) ((D.wd ((q).den - 1)).length) (mc))]) (by simp [results, Tryz.results93, go_sem, p0, p1, p2]) rfl ⟨⟨_, rfl, ⟨za, (D.wd (q).num.natAbs).length, zc, _, by rw [HSG.out], KV.out, KM.out⟩⟩, KI.out.bel⟩))))
end Gus
end
