/- Proved: whatever the two matrices, the flag, the position and the value, gussetlaw16.SparsesSame returns true, and the arguments read as before. Conditions: the three listed tables hold what the program's text lays (the card ties them). -/
import Derived.Test.YtjiobckoldnonaaGreatDoorMtxQ
import Derived.Test.YtjiobckoldnonaaGreatDoorRows
import Derived.Test.YtjiobckoldnonaaGreatDoorTie
import Derived.Test.YtjiobckoldnonaaGreatDoorCards
import Derived.WalkKit
import Derived.ProofKit
import Derived.OpenShut
import Derived.SevenTiedAt
import Derived.Below
import Derived.ChangeSame
import Derived.LaidLaws
import Derived.Lib.LaidTab
import Derived.Deep.DeepHandedRow
import Derived.Deep.SlicePairs
import Derived.Carry
section
/- gussetlaw16.SparsesSame where the second matrix is no copy. -/
namespace Gus
open Go Go.RowKit Go.Proofs
set_option maxRecDepth 100000 in
set_option maxHeartbeats 4000000 in
theorem same_no (w : World) (R0 C0 R1 C1 : Nat) (hR0 : R0 < 256) (hC0 : C0 < 256) (hR1 : R1 < 256) (hC1 : C1 < 256) (a b : Option Addr) (ca cb at0 : Nat) (qa qb : List (Int × Int)) (hqa : QAt w a qa) (hqb : QAt w b qb) (hoa : QOk qa) (hob : QOk qb) (hla : qa.length ≤ 40) (hlb : qb.length ≤ 40) (cp : Bool)
    (vn vd : Int) (hn : cp = false ∨ R0 % 7 * (C0 % 7) = 0) :
    Calls Tryz.prog 4 #[.agg #[.int .u8 R0, .int .u8 C0, .slice a qa.length ca], .agg #[.int .u8 R1, .int .u8 C1, .slice b qb.length cb], .bool cp, .int .u8 at0, .agg #[.int .i64 vn, .int .u32 vd]] w fun e w' => e = .returned (.bool true) ∧ Below w.heap.size w w' := by
  have c0 := fun W b1 T h => small_two W b1 T R0 C0 R1 C1 a b qa.length qb.length ca cb (by omega) (by omega) h
  rw [show (decide (qa.length ≤ 40) && decide (qb.length ≤ 40)) = true by simp; omega] at c0
  have cz := works_any
  have c1 := fun W (h : QAt W a qa) => mof_any W R0 C0 hR0 hC0 a ca qa h hoa (by omega)
  have c2 := fun W (h : QAt W b qb) => mof_any W R1 C1 hR1 hC1 b cb qb h hob (by omega)
  obtain ⟨la, hLa⟩ : ∃ la, la = qa.length := ⟨_, rfl⟩
  obtain ⟨lb, hLb⟩ : ∃ lb, lb = qb.length := ⟨_, rfl⟩
  rw [← hLa, ← hLb] at c0
  rw [← hLa] at c1 ⊢
  rw [← hLb] at c2 ⊢
  obtain ⟨r, hr⟩ : ∃ r, r = R0 % 7 := ⟨_, rfl⟩
  obtain ⟨c, hcc⟩ : ∃ c, c = C0 % 7 := ⟨_, rfl⟩
  obtain ⟨r', hr'⟩ : ∃ r, r = R1 % 7 := ⟨_, rfl⟩
  obtain ⟨c', hcc'⟩ : ∃ c, c = C1 % 7 := ⟨_, rfl⟩
  rw [← hr, ← hcc] at c1
  rw [← hr', ← hcc'] at c2
  obtain ⟨xs, hxs⟩ : ∃ xs, xs = mList qa (r * c) := ⟨_, rfl⟩
  obtain ⟨ys, hys⟩ : ∃ ys, ys = mList qb (r' * c') := ⟨_, rfl⟩
  rw [← hxs] at c1
  rw [← hys] at c2
  have hzx : ∀ i, SzK 128 (xs.getD i 0) := fun i => by rw [hxs]; exact mList_szk hoa _ _
  have hzy : ∀ i, SzK 128 (ys.getD i 0) := fun i => by rw [hys]; exact mList_szk hob _ _
  have hr6 : r ≤ 6 := by omega
  have hc6 : c ≤ 6 := by omega
  have hr6' : r' ≤ 6 := by omega
  have hc6' : c' ≤ 6 := by omega
  have HZX := Lib.hid hzx
  have HZY := Lib.hid hzy
  have HB := Lib.hid (And.intro hr6 (And.intro hc6 (And.intro hr6' hc6')))
  rw [← hr, ← hcc] at hn
  have HNO := Lib.hid hn
  clear hn
  clear hr hcc hr' hcc' hxs hys hzx hzy hr6 hc6 hr6' hc6' hLa hLb hoa hob hla hlb
  obtain ⟨X, hX⟩ : ∃ X, X = w.heap.size := ⟨_, rfl⟩
  have HX := Lib.hid hX
  have HQA := Lib.hid hqa
  have HQB := Lib.hid hqb
  clear hqa hqb
  go_enter Tryz.func4, Tryz.ntmps4
  go_wp2_with fail
  ((with_reducible refine (c0 _ _ 74 ?_).mono ?_))
  · exact Bx.new_at _ _ _ (by simp)
  rintro e w1 ⟨rfl, hb⟩
  have hin := (((((In.self w).alloc (.cells #[.int .u8 R0, .int .u8 C0, .slice a la ca] 74)).alloc (.cells #[.int .u8 R1, .int .u8 C1, .slice b lb cb] 74)).alloc (.cells #[.int .i64 vn, .int .u32 vd] 35)).alloc (.cells #[.int .u8 R0, .int .u8 C0, .slice a la ca, .int .u8 R1, .int .u8 C1, .slice b lb cb] 74)).call hb
  have ba := ((((Bx.new_at w #[.int .u8 R0, .int .u8 C0, .slice a la ca] 74 hX).alloc (.cells #[.int .u8 R1, .int .u8 C1, .slice b lb cb] 74)).alloc (.cells #[.int .i64 vn, .int .u32 vd] 35)).alloc (.cells #[.int .u8 R0, .int .u8 C0, .slice a la ca, .int .u8 R1, .int .u8 C1, .slice b lb cb] 74)).call hb
  have bb := (((Bx.new_at (w.alloc (.cells #[.int .u8 R0, .int .u8 C0, .slice a la ca] 74)) #[.int .u8 R1, .int .u8 C1, .slice b lb cb] 74 (n := X + 1) (by simp [hX])).alloc (.cells #[.int .i64 vn, .int .u32 vd] 35)).alloc (.cells #[.int .u8 R0, .int .u8 C0, .slice a la ca, .int .u8 R1, .int .u8 C1, .slice b lb cb] 74)).call hb
  have bq := ((Bx.new_at ((w.alloc (.cells #[.int .u8 R0, .int .u8 C0, .slice a la ca] 74)).alloc (.cells #[.int .u8 R1, .int .u8 C1, .slice b lb cb] 74)) #[.int .i64 vn, .int .u32 vd] 35 (n := X + 1 + 1) (by simp [hX])).alloc (.cells #[.int .u8 R0, .int .u8 C0, .slice a la ca, .int .u8 R1, .int .u8 C1, .slice b lb cb] 74)).call hb
  rw [← hX] at hin ⊢
  clear hX hb c0
  have a0 := ba.c0
  have a1 := ba.c1
  have a2 := ba.c2
  have b0 := bb.c0
  have b1 := bb.c1
  have b2 := bb.c2
  have hal := ba.lt
  have hbl := bb.lt
  have hqa : QAt w1 a qa := HQA.out.call (by rw [← HX.out]; exact hin.bel)
  have hqb : QAt w1 b qb := HQB.out.call (by rw [← HX.out]; exact hin.bel)
  go_upto_region 3 with fail
  have h := In.self w1
  have hc := h.cell
  refine wp_region_flow 6 (by kernel_rfl) (by kernel_rfl) (fun _ _ d _ _ h => by cases d <;> exact h) ?_; simp only [List.take_succ_cons, List.take_zero, List.drop_succ_cons, List.drop_zero]; simp only [putAll, Act.put, List.setIfInBounds_toArray, List.set]; (try simp only [Nat.reduceAdd]); (try simp only [Nat.zero_add]); (repeat (first | ((with_reducible refine flow_float (v := ?_) ?_ ?_ ?_); rotate_left 1; (focus (with_reducible rfl)); (focus (intro u w1 hw hd w2; (try simp only [depH] at hd); (try simp only [ext] at hd); (try simp only [Nat.reduceAdd] at hd); (try simp only [Nat.reduceEqDiff] at hd); (try simp only [reduceIte] at hd); (try simp only [if_true] at hd); (try simp only [if_false] at hd); (try simp only [and_true] at hd); (try simp only [true_and] at hd); go_simp; exact rfl))) | ((with_reducible refine flow_pure0 (v := ?_) ?_ ?_ ?_ ?_); rotate_left 1; (focus (with_reducible rfl)); (focus rfl); (focus (intro u w1 hw hd; (try simp only [depH] at hd); (try simp only [ext] at hd); (try simp only [Nat.reduceAdd] at hd); (try simp only [Nat.reduceEqDiff] at hd); (try simp only [reduceIte] at hd); (try simp only [if_true] at hd); (try simp only [if_false] at hd); (try simp only [and_true] at hd); (try simp only [true_and] at hd); have hc' := hw.cell; go_simp; exact rfl))) | ((with_reducible refine flow_skipg (j := ?_) (b := ?_) ?_ ?_ ?_); rotate_left 2; (focus (with_reducible rfl)); (focus (intro u w1 hw hd; (try simp only [depH] at hd); (try simp only [ext] at hd); (try simp only [Nat.reduceAdd] at hd); (try simp only [Nat.reduceEqDiff] at hd); (try simp only [reduceIte] at hd); (try simp only [if_true] at hd); (try simp only [if_false] at hd); (try simp only [and_true] at hd); (try simp only [true_and] at hd); simp [yielded, hd]; done))) | ((with_reducible refine flow_pureg (v := ?_) (j := ?_) (b := ?_) ?_ ?_ ?_ ?_); rotate_left 3; (focus (with_reducible rfl)); (focus (intro u w1 hw hd; (try simp only [depH] at hd); (try simp only [ext] at hd); (try simp only [Nat.reduceAdd] at hd); (try simp only [Nat.reduceEqDiff] at hd); (try simp only [reduceIte] at hd); (try simp only [if_true] at hd); (try simp only [if_false] at hd); (try simp only [and_true] at hd); (try simp only [true_and] at hd); simp [yielded, hd]; done)); (focus (intro u w1 hw hd; (try simp only [depH] at hd); (try simp only [ext] at hd); (try simp only [Nat.reduceAdd] at hd); (try simp only [Nat.reduceEqDiff] at hd); (try simp only [reduceIte] at hd); (try simp only [if_true] at hd); (try simp only [if_false] at hd); (try simp only [and_true] at hd); (try simp only [true_and] at hd); have hc' := hw.cell; go_simp; exact rfl))) | ((with_reducible refine flow_alloc (t := ?_) (zs := ?_) ?_ ?_ ?_ ?_); rotate_left 2; (focus (with_reducible rfl)); (focus rfl); (focus (intro u w1; go_simp; exact rfl)))))
  (with_reducible refine flow_rel (Vi := fun x W => MatAt W x r c xs) false ?_ ?_ ?_ ?_ ?_ ?_); (focus rfl); (focus rfl); (focus exact stable_mat _ _ _); (focus exact placed_false _); (focus (intro u w1 hw hd; (try simp only [depH] at hd); (try simp only [ext] at hd); (try simp only [Nat.reduceAdd] at hd); (try simp only [Nat.reduceEqDiff] at hd); (try simp only [reduceIte] at hd); (try simp only [if_true] at hd); (try simp only [if_false] at hd); (try simp only [and_true] at hd); (try simp only [true_and] at hd); have hc' := hw.cell; go_simp; (try simp only [okUpon]); go_at_call 25; ((with_reducible refine (c1 _ (hqa.call hw.ins.bel)).mono ?_)); rintro e w'' ⟨⟨v, rfl, hv⟩, hb⟩; exact ⟨v, rfl, ⟨hv, fun h => by cases h⟩, hb⟩))
  (repeat (first | ((with_reducible refine flow_float (v := ?_) ?_ ?_ ?_); rotate_left 1; (focus (with_reducible rfl)); (focus (intro u w1 hw hd w2; (try simp only [depH] at hd); (try simp only [ext] at hd); (try simp only [Nat.reduceAdd] at hd); (try simp only [Nat.reduceEqDiff] at hd); (try simp only [reduceIte] at hd); (try simp only [if_true] at hd); (try simp only [if_false] at hd); (try simp only [and_true] at hd); (try simp only [true_and] at hd); go_simp; exact rfl))) | ((with_reducible refine flow_pure0 (v := ?_) ?_ ?_ ?_ ?_); rotate_left 1; (focus (with_reducible rfl)); (focus rfl); (focus (intro u w1 hw hd; (try simp only [depH] at hd); (try simp only [ext] at hd); (try simp only [Nat.reduceAdd] at hd); (try simp only [Nat.reduceEqDiff] at hd); (try simp only [reduceIte] at hd); (try simp only [if_true] at hd); (try simp only [if_false] at hd); (try simp only [and_true] at hd); (try simp only [true_and] at hd); have hc' := hw.cell; go_simp; exact rfl))) | ((with_reducible refine flow_skipg (j := ?_) (b := ?_) ?_ ?_ ?_); rotate_left 2; (focus (with_reducible rfl)); (focus (intro u w1 hw hd; (try simp only [depH] at hd); (try simp only [ext] at hd); (try simp only [Nat.reduceAdd] at hd); (try simp only [Nat.reduceEqDiff] at hd); (try simp only [reduceIte] at hd); (try simp only [if_true] at hd); (try simp only [if_false] at hd); (try simp only [and_true] at hd); (try simp only [true_and] at hd); simp [yielded, hd]; done))) | ((with_reducible refine flow_pureg (v := ?_) (j := ?_) (b := ?_) ?_ ?_ ?_ ?_); rotate_left 3; (focus (with_reducible rfl)); (focus (intro u w1 hw hd; (try simp only [depH] at hd); (try simp only [ext] at hd); (try simp only [Nat.reduceAdd] at hd); (try simp only [Nat.reduceEqDiff] at hd); (try simp only [reduceIte] at hd); (try simp only [if_true] at hd); (try simp only [if_false] at hd); (try simp only [and_true] at hd); (try simp only [true_and] at hd); simp [yielded, hd]; done)); (focus (intro u w1 hw hd; (try simp only [depH] at hd); (try simp only [ext] at hd); (try simp only [Nat.reduceAdd] at hd); (try simp only [Nat.reduceEqDiff] at hd); (try simp only [reduceIte] at hd); (try simp only [if_true] at hd); (try simp only [if_false] at hd); (try simp only [and_true] at hd); (try simp only [true_and] at hd); have hc' := hw.cell; go_simp; exact rfl))) | ((with_reducible refine flow_alloc (t := ?_) (zs := ?_) ?_ ?_ ?_ ?_); rotate_left 2; (focus (with_reducible rfl)); (focus rfl); (focus (intro u w1; go_simp; exact rfl)))))
  (with_reducible refine flow_rel (Vi := fun x W => MatAt W x r' c' ys) false ?_ ?_ ?_ ?_ ?_ ?_); (focus rfl); (focus rfl); (focus exact stable_mat _ _ _); (focus exact placed_false _); (focus (intro u w1 hw hd; (try simp only [depH] at hd); (try simp only [ext] at hd); (try simp only [Nat.reduceAdd] at hd); (try simp only [Nat.reduceEqDiff] at hd); (try simp only [reduceIte] at hd); (try simp only [if_true] at hd); (try simp only [if_false] at hd); (try simp only [and_true] at hd); (try simp only [true_and] at hd); have hc' := hw.cell; go_simp; (try simp only [okUpon]); go_at_call 25; ((with_reducible refine (c2 _ (hqb.call hw.ins.bel)).mono ?_)); rintro e w'' ⟨⟨v, rfl, hv⟩, hb⟩; exact ⟨v, rfl, ⟨hv, fun h => by cases h⟩, hb⟩))
  (repeat (first | ((with_reducible refine flow_float (v := ?_) ?_ ?_ ?_); rotate_left 1; (focus (with_reducible rfl)); (focus (intro u w1 hw hd w2; (try simp only [depH] at hd); (try simp only [ext] at hd); (try simp only [Nat.reduceAdd] at hd); (try simp only [Nat.reduceEqDiff] at hd); (try simp only [reduceIte] at hd); (try simp only [if_true] at hd); (try simp only [if_false] at hd); (try simp only [and_true] at hd); (try simp only [true_and] at hd); go_simp; exact rfl))) | ((with_reducible refine flow_pure0 (v := ?_) ?_ ?_ ?_ ?_); rotate_left 1; (focus (with_reducible rfl)); (focus rfl); (focus (intro u w1 hw hd; (try simp only [depH] at hd); (try simp only [ext] at hd); (try simp only [Nat.reduceAdd] at hd); (try simp only [Nat.reduceEqDiff] at hd); (try simp only [reduceIte] at hd); (try simp only [if_true] at hd); (try simp only [if_false] at hd); (try simp only [and_true] at hd); (try simp only [true_and] at hd); have hc' := hw.cell; go_simp; exact rfl))) | ((with_reducible refine flow_skipg (j := ?_) (b := ?_) ?_ ?_ ?_); rotate_left 2; (focus (with_reducible rfl)); (focus (intro u w1 hw hd; (try simp only [depH] at hd); (try simp only [ext] at hd); (try simp only [Nat.reduceAdd] at hd); (try simp only [Nat.reduceEqDiff] at hd); (try simp only [reduceIte] at hd); (try simp only [if_true] at hd); (try simp only [if_false] at hd); (try simp only [and_true] at hd); (try simp only [true_and] at hd); simp [yielded, hd]; done))) | ((with_reducible refine flow_pureg (v := ?_) (j := ?_) (b := ?_) ?_ ?_ ?_ ?_); rotate_left 3; (focus (with_reducible rfl)); (focus (intro u w1 hw hd; (try simp only [depH] at hd); (try simp only [ext] at hd); (try simp only [Nat.reduceAdd] at hd); (try simp only [Nat.reduceEqDiff] at hd); (try simp only [reduceIte] at hd); (try simp only [if_true] at hd); (try simp only [if_false] at hd); (try simp only [and_true] at hd); (try simp only [true_and] at hd); simp [yielded, hd]; done)); (focus (intro u w1 hw hd; (try simp only [depH] at hd); (try simp only [ext] at hd); (try simp only [Nat.reduceAdd] at hd); (try simp only [Nat.reduceEqDiff] at hd); (try simp only [reduceIte] at hd); (try simp only [if_true] at hd); (try simp only [if_false] at hd); (try simp only [and_true] at hd); (try simp only [true_and] at hd); have hc' := hw.cell; go_simp; exact rfl))) | ((with_reducible refine flow_alloc (t := ?_) (zs := ?_) ?_ ?_ ?_ ?_); rotate_left 2; (focus (with_reducible rfl)); (focus rfl); (focus (intro u w1; go_simp; exact rfl)))))
  (try clear hc hf h); intro u w' h ha hdi; replace h := h.ins; (try simp only [World.size_alloc] at h); (try dsimp only at ha); (repeat rw [World.size_alloc] at ha); (try simp only [allH] at ha); (try simp only [ext] at ha); (try simp only [Nat.reduceAdd] at ha); (try simp only [Nat.reduceEqDiff] at ha); (try simp only [reduceIte] at ha); (try simp only [if_true] at ha); (try simp only [if_false] at ha); (try simp only [and_true] at ha); (try simp only [true_and] at ha); have hc := h.cell; have hf := h.frozen
  obtain ⟨⟨⟨⟨⟨ha, hM1⟩, ha2⟩, hM2⟩, S1, hu4, hS1, bS1⟩, S2, hu5, hS2, bS2⟩ := ha
  obtain ⟨ax, kx, hu1⟩ := hM1.shape
  obtain ⟨ay, ky, hu3⟩ := hM2.shape
  rw [hu1] at hM1
  rw [hu3] at hM2
  have hne' := hdi 4 5 (by decide) (by decide) (by decide) rfl rfl _ (by rw [hu4]; rfl); rw [hu5] at hne'; have hne : ¬ S2 = S1 := fun h => hne' (congrArg some h); have hne_ : ¬ S1 = S2 := fun h => hne h.symm; clear hne'
  (try obtain ha := ha); (try dsimp only);  simp only [ha, ha2, hu1, hu3, hu4, hu5]; clear ha hdi ha2 hu1 hu3 hu4 hu5
  have hXS1 : X + 1 + 1 < S1 := by have := bq.lt; omega
  have hXS2 : X + 1 + 1 < S2 := by have := bq.lt; omega
  have hin1 := hin.call h.bel
  have bq1 := bq.call h.bel
  have p0 := bS1.c0
  have p1 := bS1.c1
  have p2 := bS1.c2
  have p3 := bS1.frozen 0
  have p4 := bS1.frozen 1
  have p5 := bS1.frozen 2
  have p6 := bS1.lt
  have q0 := bS2.c0
  have q1 := bS2.c1
  have q2 := bS2.c2
  have q3 := bS2.frozen 0
  have q4 := bS2.frozen 1
  have q5 := bS2.frozen 2
  have q6 := bS2.lt
  obtain ⟨L, hL⟩ : ∃ L, L = xs.length := ⟨_, rfl⟩
  obtain ⟨L', hL'⟩ : ∃ L, L = ys.length := ⟨_, rfl⟩
  rw [← hL] at hM1
  rw [← hL'] at hM2
  rw [← hL, ← hL']
  have k1 := ((bS1.set 0 (.int .i64 r)).set 1 (.int .i64 c)).set 2 (.slice ax L kx)
  have k2 := (((bS2.other (a := ⟨S1, 0, none⟩) hne_ (.int .i64 r)).other (a := ⟨S1, 1, none⟩) hne_ (.int .i64 c)).other (a := ⟨S1, 2, none⟩) hne_ (.slice ax L kx))
  have K1 := Lib.hid (((k1.other (a := ⟨S2, 0, none⟩) hne (.int .i64 r')).other (a := ⟨S2, 1, none⟩) hne (.int .i64 c')).other (a := ⟨S2, 2, none⟩) hne (.slice ay L' ky))
  have K2 := Lib.hid (((k2.set 0 (.int .i64 r')).set 1 (.int .i64 c')).set 2 (.slice ay L' ky))
  have K3 := Lib.hid ((((((bq1.other (a := ⟨S1, 0, none⟩) (by simp; omega) (.int .i64 r)).other (a := ⟨S1, 1, none⟩) (by simp; omega) (.int .i64 c)).other (a := ⟨S1, 2, none⟩) (by simp; omega) (.slice ax L kx)).other (a := ⟨S2, 0, none⟩) (by simp; omega) (.int .i64 r')).other (a := ⟨S2, 1, none⟩) (by simp; omega) (.int .i64 c')).other (a := ⟨S2, 2, none⟩) (by simp; omega) (.slice ay L' ky))
  have K4 := Lib.hid ((((((hin1.setCell (p := ⟨S1, 0, none⟩) (by simp; omega) (.int .i64 r)).setCell (p := ⟨S1, 1, none⟩) (by simp; omega) (.int .i64 c)).setCell (p := ⟨S1, 2, none⟩) (by simp; omega) (.slice ax L kx)).setCell (p := ⟨S2, 0, none⟩) (by simp; omega) (.int .i64 r')).setCell (p := ⟨S2, 1, none⟩) (by simp; omega) (.int .i64 c')).setCell (p := ⟨S2, 2, none⟩) (by simp; omega) (.slice ay L' ky))
  have K5 := Lib.hid ((hM1.put3 (p' := r) (q' := c) (ao' := ax) (n' := L) (k' := kx) bS1).put3 (p' := r') (q' := c') (ao' := ay) (n' := L') (k' := ky) k2)
  have K6 := Lib.hid ((hM2.put3 (p' := r) (q' := c) (ao' := ax) (n' := L) (k' := kx) bS1).put3 (p' := r') (q' := c') (ao' := ay) (n' := L') (k' := ky) k2)
  clear k1 k2 hin1 bq1 hM1 hM2 bS1 bS2 hc hf h hin bq ba bb a0 a1 a2 b0 b1 b2 hal hbl hqa hqb hS1 hS2 hL hL'
  go_upto_region 4 with fail
  have g1 := K1.out
  have g2 := K2.out
  have g3 := K3.out
  have hin := K4.out
  have m1 := K5.out
  have m2 := K6.out
  clear K1 K2 K3 K4 K5 K6 p0 p1 p2 p3 p4 p5 p6 q0 q1 q2 q3 q4 q5 q6
  generalize (((((w'.setCell ⟨S1, 0, none⟩ (.int .i64 r)).setCell ⟨S1, 1, none⟩ (.int .i64 c)).setCell ⟨S1, 2, none⟩ (.slice ax L kx)).setCell ⟨S2, 0, none⟩ (.int .i64 r')).setCell ⟨S2, 1, none⟩ (.int .i64 c')).setCell ⟨S2, 2, none⟩ (.slice ay L' ky) = W2 at *
  simp only [List.set] at g1 g2
  have x2 := g1.c2
  have xl := g1.lt
  have HZ2 := HZY
  have hr6 := HB.out.2.2.1
  have hc6 := HB.out.2.2.2
  have e1 := m1.len
  rcases cp with _ | _
  · clear e1
    go_upto_region 7 with fail
    clear x2 xl
    ((have hr2 : r ≤ 2048 := by have := HB.out; omega);
        (have hc2 : c ≤ 2048 := by have := HB.out; omega);
        (have hrc : r * c ≤ 36 := Nat.mul_le_mul HB.out.1 HB.out.2.1);
        (have hrc' : r' * c' ≤ 36 := Nat.mul_le_mul hr6 hc6);
        (have hlx : xs.length = r * c := (let ⟨_, _, h, _⟩ := m1; h));
        (have hly : ys.length = r' * c' := (let ⟨_, _, h, _⟩ := m2; h));
        (have d1 := fun W (h : MatAt W (.agg #[.int .i64 r, .int .i64 c, .slice ax L kx]) r c xs) => ofd_any (j := 128) W _ r c xs h hr2 hc2 HZX.out (by omega));
        (have d2 := fun W (h : MatAt W (.agg #[.int .i64 r', .int .i64 c', .slice ay L' ky]) r' c' ys) => ofd_any (j := 128) W _ r' c' ys h (by omega) (by omega) HZ2.out (by omega));
        (have d3 := fun W v (h : SpM W v r c (mvals c xs)) => dense_ok W v r c (mvals c xs) h hr2 hc2);
        (rw [dense_mvals hlx] at d3);
        (have d4 := fun W v (h : MatAt W v r c xs) => lof_any (j := 128) W v r c xs h hr2 hc2 HZX.out (by omega));
        (have HE := Lib.hid (same_dense hlx hly));
        (have HLX := Lib.hid hlx);
        (clear hlx hly hrc hrc');
        (have x0 := g1.c0);
        (have x1 := g1.c1);
        (have x2 := g1.c2);
        (have xl := g1.lt);
        (go_wp2_with fail);
        (((with_reducible refine (d1 _ m1).mono ?_)));
        (rintro e w3 ⟨⟨s, rfl, hs⟩, hb⟩);
        (replace hs := hs.m);
        (obtain ⟨sa, ks, rfl⟩ := hs.shape);
        (replace hin := hin.call hb);
        (replace g1 := g1.call hb);
        (replace g2 := g2.call hb);
        (replace g3 := g3.call hb);
        (replace m1 := m1.call hb);
        (replace m2 := m2.call hb);
        (clear hb d1);
        (clear x0 x1 x2 xl);
        (go_upto_region 8 with fail);
        (obtain ⟨Z1, hZ1⟩ : ∃ z, z = w3.heap.size := ⟨_, rfl⟩);
        (have bZ1 := Bx.new_at w3 #[.int .i64 r, .int .i64 c, .slice sa r ks] 63 hZ1);
        (replace hin := hin.alloc (.cells #[.int .i64 r, .int .i64 c, .slice sa r ks] 63));
        (replace g1 := g1.alloc (.cells #[.int .i64 r, .int .i64 c, .slice sa r ks] 63));
        (replace g2 := g2.alloc (.cells #[.int .i64 r, .int .i64 c, .slice sa r ks] 63));
        (replace g3 := g3.alloc (.cells #[.int .i64 r, .int .i64 c, .slice sa r ks] 63));
        (replace m1 := m1.call ((Below.refl _ _).alloc (Nat.le_refl _) (.cells #[.int .i64 r, .int .i64 c, .slice sa r ks] 63)));
        (replace m2 := m2.call ((Below.refl _ _).alloc (Nat.le_refl _) (.cells #[.int .i64 r, .int .i64 c, .slice sa r ks] 63)));
        (replace hs := hs.call ((Below.refl _ _).alloc (Nat.le_refl _) (.cells #[.int .i64 r, .int .i64 c, .slice sa r ks] 63)));
        (rw [← hZ1]);
        (clear hZ1);
        (generalize w3.alloc (.cells #[.int .i64 r, .int .i64 c, .slice sa r ks] 63) = W3 at *);
        (have y0 := g2.c0);
        (have y1 := g2.c1);
        (have y2 := g2.c2);
        (have yl := g2.lt);
        (go_wp2_with fail);
        (((with_reducible refine (d2 _ m2).mono ?_)));
        (rintro e w4 ⟨⟨t, rfl, ht⟩, hb⟩);
        (replace ht := ht.m);
        (obtain ⟨at_, kt, rfl⟩ := ht.shape);
        (replace hin := hin.call hb);
        (replace g1 := g1.call hb);
        (replace g2 := g2.call hb);
        (replace g3 := g3.call hb);
        (replace m1 := m1.call hb);
        (replace m2 := m2.call hb);
        (replace hs := hs.call hb);
        (replace bZ1 := bZ1.call hb);
        (clear hb d2);
        (clear y0 y1 y2 yl);
        (go_upto_region 9 with fail);
        (obtain ⟨Z2, hZ2⟩ : ∃ z, z = w4.heap.size := ⟨_, rfl⟩);
        (have bZ2 := Bx.new_at w4 #[.int .i64 r', .int .i64 c', .slice at_ r' kt] 63 hZ2);
        (replace hin := hin.alloc (.cells #[.int .i64 r', .int .i64 c', .slice at_ r' kt] 63));
        (replace g1 := g1.alloc (.cells #[.int .i64 r', .int .i64 c', .slice at_ r' kt] 63));
        (replace g2 := g2.alloc (.cells #[.int .i64 r', .int .i64 c', .slice at_ r' kt] 63));
        (replace g3 := g3.alloc (.cells #[.int .i64 r', .int .i64 c', .slice at_ r' kt] 63));
        (replace bZ1 := bZ1.alloc (.cells #[.int .i64 r', .int .i64 c', .slice at_ r' kt] 63));
        (replace m1 := m1.call ((Below.refl _ _).alloc (Nat.le_refl _) (.cells #[.int .i64 r', .int .i64 c', .slice at_ r' kt] 63)));
        (replace m2 := m2.call ((Below.refl _ _).alloc (Nat.le_refl _) (.cells #[.int .i64 r', .int .i64 c', .slice at_ r' kt] 63)));
        (replace hs := hs.call ((Below.refl _ _).alloc (Nat.le_refl _) (.cells #[.int .i64 r', .int .i64 c', .slice at_ r' kt] 63)));
        (replace ht := ht.call ((Below.refl _ _).alloc (Nat.le_refl _) (.cells #[.int .i64 r', .int .i64 c', .slice at_ r' kt] 63)));
        (rw [← hZ2]);
        (clear hZ2);
        (generalize w4.alloc (.cells #[.int .i64 r', .int .i64 c', .slice at_ r' kt] 63) = W4 at *);
        (have z0 := bZ1.c0);
        (have z1 := bZ1.c1);
        (have z2 := bZ1.c2);
        (have zl := bZ1.lt);
        (go_wp2_with fail);
        (((with_reducible refine (d3 _ _ hs).mono ?_)));
        (rintro e w5 ⟨⟨d, rfl, hd⟩, hb⟩);
        (obtain ⟨ad, kd, rfl⟩ := hd.shape);
        (obtain ⟨Ld, hLd⟩ : ∃ Ld, Ld = xs.length := ⟨_, rfl⟩);
        (rw [← hLd] at hd ⊢);
        (replace hin := hin.call hb);
        (replace g1 := g1.call hb);
        (replace g2 := g2.call hb);
        (replace g3 := g3.call hb);
        (replace m1 := m1.call hb);
        (replace m2 := m2.call hb);
        (replace hs := hs.call hb);
        (replace ht := ht.call hb);
        (replace bZ1 := bZ1.call hb);
        (replace bZ2 := bZ2.call hb);
        (clear hb d3 hLd);
        (clear z0 z1 z2 zl);
        (go_upto_region 10 with fail);
        (obtain ⟨Z3, hZ3⟩ : ∃ z, z = w5.heap.size := ⟨_, rfl⟩);
        (have bZ3 := Bx.new_at w5 #[.int .i64 r, .int .i64 c, .slice ad Ld kd] 78 hZ3);
        (replace hin := hin.alloc (.cells #[.int .i64 r, .int .i64 c, .slice ad Ld kd] 78));
        (replace g1 := g1.alloc (.cells #[.int .i64 r, .int .i64 c, .slice ad Ld kd] 78));
        (replace g2 := g2.alloc (.cells #[.int .i64 r, .int .i64 c, .slice ad Ld kd] 78));
        (replace bZ1 := bZ1.alloc (.cells #[.int .i64 r, .int .i64 c, .slice ad Ld kd] 78));
        (replace bZ2 := bZ2.alloc (.cells #[.int .i64 r, .int .i64 c, .slice ad Ld kd] 78));
        (replace m1 := m1.call ((Below.refl _ _).alloc (Nat.le_refl _) (.cells #[.int .i64 r, .int .i64 c, .slice ad Ld kd] 78)));
        (replace m2 := m2.call ((Below.refl _ _).alloc (Nat.le_refl _) (.cells #[.int .i64 r, .int .i64 c, .slice ad Ld kd] 78)));
        (replace hs := hs.call ((Below.refl _ _).alloc (Nat.le_refl _) (.cells #[.int .i64 r, .int .i64 c, .slice ad Ld kd] 78)));
        (replace ht := ht.call ((Below.refl _ _).alloc (Nat.le_refl _) (.cells #[.int .i64 r, .int .i64 c, .slice ad Ld kd] 78)));
        (replace hd := hd.call ((Below.refl _ _).alloc (Nat.le_refl _) (.cells #[.int .i64 r, .int .i64 c, .slice ad Ld kd] 78)));
        (rw [← hZ3]);
        (clear hZ3);
        (generalize w5.alloc (.cells #[.int .i64 r, .int .i64 c, .slice ad Ld kd] 78) = W5 at *);
        (have e1 := fun W (h : In W5.heap.size W5 W) => msame_any W _ _ r c r c xs xs (hd.call h.bel) (m1.call h.bel) (by rw [HLX.out]; have := Nat.mul_le_mul HB.out.1 HB.out.2.1; omega));
        (rw [show sameD r c xs r c xs = true by simp [sameD]] at e1);
        (have e2 := fun W (h : In W5.heap.size W5 W) => ssame_ok (hs.call h.bel) (ht.call h.bel) hr2 hc2);
        (rw [HE.out] at e2);
        (have e3 := fun W (h : In W5.heap.size W5 W) => msame_any W _ _ r c r' c' xs ys (m1.call h.bel) (m2.call h.bel) (by rw [HLX.out]; have := Nat.mul_le_mul HB.out.1 HB.out.2.1; omega));
        (have e4 : ∀ W, In W5.heap.size W5 W → Calls Tryz.prog 29 #[.agg #[.int .i64 r, .int .i64 c, .slice ad Ld kd]] W fun e w' => (∃ s, e = .returned s ∧ SpM w' s r c (mvals c xs)) ∧ Below W.heap.size W w' := fun W h => (d4 W _ (hd.call h.bel)).mono fun e w' ⟨⟨s, h1, h2⟩, h3⟩ => ⟨⟨s, h1, h2.m⟩, h3⟩);
        (have e5 : ∀ W v, In W5.heap.size W5 W → SpM W v r c (mvals c xs) → Calls Tryz.prog 23 #[.agg #[.int .i64 r, .int .i64 c, .slice sa r ks], v] W fun e w' => e = .returned (.bool true) ∧ Below W.heap.size W w' := fun W v h h2 => (ssame_ok (hs.call h.bel) h2 hr2 hc2).mono fun e w' ⟨h3, h4⟩ => ⟨by rw [h3, sameM_self (fun _ _ _ _ => rfl)], h4⟩);
        (obtain ⟨z, hz⟩ : ∃ z, z = sameD r c xs r' c' ys := ⟨_, rfl⟩);
        (rw [← hz] at e2 e3);
        (clear hz);
        (have x0 := g1.c0);
        (have x1 := g1.c1);
        (have x2 := g1.c2);
        (have xl := g1.lt);
        (have y0 := g2.c0);
        (have y1 := g2.c1);
        (have y2 := g2.c2);
        (have yl := g2.lt);
        (have s0 := bZ1.c0);
        (have s1 := bZ1.c1);
        (have s2 := bZ1.c2);
        (have sl := bZ1.lt);
        (have t0 := bZ2.c0);
        (have t1 := bZ2.c1);
        (have t2 := bZ2.c2);
        (have tl := bZ2.lt);
        (have d0 := bZ3.c0);
        (have d1 := bZ3.c1);
        (have d2 := bZ3.c2);
        (have dl := bZ3.lt);
        (clear g1 g2 g3 m1 m2 hs ht hd bZ1 bZ2 bZ3 d4);
        (have h := In.self W5);
        (have hc := h.cell);
        (refine wp_region_flow 33 (by kernel_rfl) (by kernel_rfl) (fun _ _ d _ _ h => by cases d <;> exact h) ?_; simp only [List.take_succ_cons, List.take_zero, List.drop_succ_cons, List.drop_zero]; simp only [putAll, Act.put, List.setIfInBounds_toArray, List.set]; (try simp only [Nat.reduceAdd]); (try simp only [Nat.zero_add]); (repeat (first | ((with_reducible refine flow_float (v := ?_) ?_ ?_ ?_); rotate_left 1; (focus (with_reducible rfl)); (focus (intro u w1 hw hd w2; (try simp only [depH] at hd); (try simp only [ext] at hd); (try simp only [Nat.reduceAdd] at hd); (try simp only [Nat.reduceEqDiff] at hd); (try simp only [reduceIte] at hd); (try simp only [if_true] at hd); (try simp only [if_false] at hd); (try simp only [and_true] at hd); (try simp only [true_and] at hd); go_simp; exact rfl))) | ((with_reducible refine flow_pure0 (v := ?_) ?_ ?_ ?_ ?_); rotate_left 1; (focus (with_reducible rfl)); (focus rfl); (focus (intro u w1 hw hd; (try simp only [depH] at hd); (try simp only [ext] at hd); (try simp only [Nat.reduceAdd] at hd); (try simp only [Nat.reduceEqDiff] at hd); (try simp only [reduceIte] at hd); (try simp only [if_true] at hd); (try simp only [if_false] at hd); (try simp only [and_true] at hd); (try simp only [true_and] at hd); have hc' := hw.cell; go_simp; exact rfl))) | ((with_reducible refine flow_skipg (j := ?_) (b := ?_) ?_ ?_ ?_); rotate_left 2; (focus (with_reducible rfl)); (focus (intro u w1 hw hd; (try simp only [depH] at hd); (try simp only [ext] at hd); (try simp only [Nat.reduceAdd] at hd); (try simp only [Nat.reduceEqDiff] at hd); (try simp only [reduceIte] at hd); (try simp only [if_true] at hd); (try simp only [if_false] at hd); (try simp only [and_true] at hd); (try simp only [true_and] at hd); simp [yielded, hd]; done))) | ((with_reducible refine flow_pureg (v := ?_) (j := ?_) (b := ?_) ?_ ?_ ?_ ?_); rotate_left 3; (focus (with_reducible rfl)); (focus (intro u w1 hw hd; (try simp only [depH] at hd); (try simp only [ext] at hd); (try simp only [Nat.reduceAdd] at hd); (try simp only [Nat.reduceEqDiff] at hd); (try simp only [reduceIte] at hd); (try simp only [if_true] at hd); (try simp only [if_false] at hd); (try simp only [and_true] at hd); (try simp only [true_and] at hd); simp [yielded, hd]; done)); (focus (intro u w1 hw hd; (try simp only [depH] at hd); (try simp only [ext] at hd); (try simp only [Nat.reduceAdd] at hd); (try simp only [Nat.reduceEqDiff] at hd); (try simp only [reduceIte] at hd); (try simp only [if_true] at hd); (try simp only [if_false] at hd); (try simp only [and_true] at hd); (try simp only [true_and] at hd); have hc' := hw.cell; go_simp; exact rfl))) | ((with_reducible refine flow_alloc (t := ?_) (zs := ?_) ?_ ?_ ?_ ?_); rotate_left 2; (focus (with_reducible rfl)); (focus rfl); (focus (intro u w1; go_simp; exact rfl))) | ((with_reducible refine flow_pure0 (v := ?_) ?_ ?_ ?_ ?_); rotate_left 1; (focus (with_reducible rfl)); (focus rfl); (focus (intro u w1 hw hd; (try simp only [depH] at hd); (try simp only [ext] at hd); (try simp only [Nat.reduceAdd] at hd); (try simp only [Nat.reduceEqDiff] at hd); (try simp only [reduceIte] at hd); (try simp only [if_true] at hd); (try simp only [if_false] at hd); (try simp only [and_true] at hd); (try simp only [true_and] at hd); have hc' := hw.cell; go_simp; go_at_call 28; ((with_reducible refine (e1 _ hw.ins).mono ?_)); rintro e w'' ⟨rfl, hb⟩; refine ⟨?_, hb⟩; exact rfl))) | ((with_reducible refine flow_pureg (v := ?_) (j := ?_) (b := ?_) ?_ ?_ ?_ ?_); rotate_left 3; (focus (with_reducible rfl)); (focus (intro u w1 hw hd; (try simp only [depH] at hd); (try simp only [ext] at hd); (try simp only [Nat.reduceAdd] at hd); (try simp only [Nat.reduceEqDiff] at hd); (try simp only [reduceIte] at hd); (try simp only [if_true] at hd); (try simp only [if_false] at hd); (try simp only [and_true] at hd); (try simp only [true_and] at hd); simp [yielded, hd]; done)); (focus (intro u w1 hw hd; (try simp only [depH] at hd); (try simp only [ext] at hd); (try simp only [Nat.reduceAdd] at hd); (try simp only [Nat.reduceEqDiff] at hd); (try simp only [reduceIte] at hd); (try simp only [if_true] at hd); (try simp only [if_false] at hd); (try simp only [and_true] at hd); (try simp only [true_and] at hd); have hc' := hw.cell; go_simp; go_at_call 28; ((with_reducible refine (e1 _ hw.ins).mono ?_)); rintro e w'' ⟨rfl, hb⟩; refine ⟨?_, hb⟩; exact rfl))) | ((with_reducible refine flow_pure0 (v := ?_) ?_ ?_ ?_ ?_); rotate_left 1; (focus (with_reducible rfl)); (focus rfl); (focus (intro u w1 hw hd; (try simp only [depH] at hd); (try simp only [ext] at hd); (try simp only [Nat.reduceAdd] at hd); (try simp only [Nat.reduceEqDiff] at hd); (try simp only [reduceIte] at hd); (try simp only [if_true] at hd); (try simp only [if_false] at hd); (try simp only [and_true] at hd); (try simp only [true_and] at hd); have hc' := hw.cell; go_simp; go_at_call 23; ((with_reducible refine (e2 _ hw.ins).mono ?_)); rintro e w'' ⟨rfl, hb⟩; refine ⟨?_, hb⟩; exact rfl))) | ((with_reducible refine flow_pureg (v := ?_) (j := ?_) (b := ?_) ?_ ?_ ?_ ?_); rotate_left 3; (focus (with_reducible rfl)); (focus (intro u w1 hw hd; (try simp only [depH] at hd); (try simp only [ext] at hd); (try simp only [Nat.reduceAdd] at hd); (try simp only [Nat.reduceEqDiff] at hd); (try simp only [reduceIte] at hd); (try simp only [if_true] at hd); (try simp only [if_false] at hd); (try simp only [and_true] at hd); (try simp only [true_and] at hd); simp [yielded, hd]; done)); (focus (intro u w1 hw hd; (try simp only [depH] at hd); (try simp only [ext] at hd); (try simp only [Nat.reduceAdd] at hd); (try simp only [Nat.reduceEqDiff] at hd); (try simp only [reduceIte] at hd); (try simp only [if_true] at hd); (try simp only [if_false] at hd); (try simp only [and_true] at hd); (try simp only [true_and] at hd); have hc' := hw.cell; go_simp; go_at_call 23; ((with_reducible refine (e2 _ hw.ins).mono ?_)); rintro e w'' ⟨rfl, hb⟩; refine ⟨?_, hb⟩; exact rfl))) | ((with_reducible refine flow_pure0 (v := ?_) ?_ ?_ ?_ ?_); rotate_left 1; (focus (with_reducible rfl)); (focus rfl); (focus (intro u w1 hw hd; (try simp only [depH] at hd); (try simp only [ext] at hd); (try simp only [Nat.reduceAdd] at hd); (try simp only [Nat.reduceEqDiff] at hd); (try simp only [reduceIte] at hd); (try simp only [if_true] at hd); (try simp only [if_false] at hd); (try simp only [and_true] at hd); (try simp only [true_and] at hd); have hc' := hw.cell; go_simp; go_at_call 28; ((with_reducible refine (e3 _ hw.ins).mono ?_)); rintro e w'' ⟨rfl, hb⟩; refine ⟨?_, hb⟩; exact rfl))) | ((with_reducible refine flow_pureg (v := ?_) (j := ?_) (b := ?_) ?_ ?_ ?_ ?_); rotate_left 3; (focus (with_reducible rfl)); (focus (intro u w1 hw hd; (try simp only [depH] at hd); (try simp only [ext] at hd); (try simp only [Nat.reduceAdd] at hd); (try simp only [Nat.reduceEqDiff] at hd); (try simp only [reduceIte] at hd); (try simp only [if_true] at hd); (try simp only [if_false] at hd); (try simp only [and_true] at hd); (try simp only [true_and] at hd); simp [yielded, hd]; done)); (focus (intro u w1 hw hd; (try simp only [depH] at hd); (try simp only [ext] at hd); (try simp only [Nat.reduceAdd] at hd); (try simp only [Nat.reduceEqDiff] at hd); (try simp only [reduceIte] at hd); (try simp only [if_true] at hd); (try simp only [if_false] at hd); (try simp only [and_true] at hd); (try simp only [true_and] at hd); have hc' := hw.cell; go_simp; go_at_call 28; ((with_reducible refine (e3 _ hw.ins).mono ?_)); rintro e w'' ⟨rfl, hb⟩; refine ⟨?_, hb⟩; exact rfl))))));
        ((with_reducible refine flow_relg (Vi := fun x W => SpM W x r c (mvals c xs)) (j := ?_) (b := ?_) ?_ ?_ ?_ ?_ ?_); rotate_left 2; (focus (with_reducible rfl)); (focus (intro u w1 hw hd; (try simp only [depH] at hd); (try simp only [ext] at hd); (try simp only [Nat.reduceAdd] at hd); (try simp only [Nat.reduceEqDiff] at hd); (try simp only [reduceIte] at hd); (try simp only [if_true] at hd); (try simp only [if_false] at hd); (try simp only [and_true] at hd); (try simp only [true_and] at hd); simp [yielded, hd]; done)); (focus exact stable_spm _ _ _); (focus (intro u w1 hw hd; (try simp only [depH] at hd); (try simp only [ext] at hd); (try simp only [Nat.reduceAdd] at hd); (try simp only [Nat.reduceEqDiff] at hd); (try simp only [reduceIte] at hd); (try simp only [if_true] at hd); (try simp only [if_false] at hd); (try simp only [and_true] at hd); (try simp only [true_and] at hd); have hc' := hw.cell; go_simp; (try simp only [okUpon]); go_at_call 29; ((with_reducible refine (e4 _ hw.ins).mono ?_)); rintro e w'' ⟨⟨v, rfl, hv⟩, hb⟩; exact ⟨v, rfl, ⟨hv, fun h => by cases h⟩, hb⟩)));
        (((with_reducible refine flow_pureg (v := .bool true) (j := ?_) (b := ?_) ?_ ?_ ?_ ?_); rotate_left 2; (focus (with_reducible rfl)); (focus (intro u w1 hw hd; (try simp only [depH] at hd); (try simp only [ext] at hd); (try simp only [Nat.reduceAdd] at hd); (try simp only [Nat.reduceEqDiff] at hd); (try simp only [reduceIte] at hd); (try simp only [if_true] at hd); (try simp only [if_false] at hd); (try simp only [and_true] at hd); (try simp only [true_and] at hd); simp [yielded, hd]; done)); (focus (intro u w1 hw hd; (try simp only [depH] at hd); (try simp only [ext] at hd); (try simp only [Nat.reduceAdd] at hd); (try simp only [Nat.reduceEqDiff] at hd); (try simp only [reduceIte] at hd); (try simp only [if_true] at hd); (try simp only [if_false] at hd); (try simp only [and_true] at hd); (try simp only [true_and] at hd); obtain ⟨hd1, hd2, _⟩ := hd; go_simp; go_at_call 23; refine (e5 _ _ hw.ins hd2).mono ?_; rintro e w'' ⟨rfl, hb⟩; exact ⟨rfl, hb⟩))));
        ((repeat (first | ((with_reducible refine flow_float (v := ?_) ?_ ?_ ?_); rotate_left 1; (focus (with_reducible rfl)); (focus (intro u w1 hw hd w2; (try simp only [depH] at hd); (try simp only [ext] at hd); (try simp only [Nat.reduceAdd] at hd); (try simp only [Nat.reduceEqDiff] at hd); (try simp only [reduceIte] at hd); (try simp only [if_true] at hd); (try simp only [if_false] at hd); (try simp only [and_true] at hd); (try simp only [true_and] at hd); go_simp; exact rfl))) | ((with_reducible refine flow_pure0 (v := ?_) ?_ ?_ ?_ ?_); rotate_left 1; (focus (with_reducible rfl)); (focus rfl); (focus (intro u w1 hw hd; (try simp only [depH] at hd); (try simp only [ext] at hd); (try simp only [Nat.reduceAdd] at hd); (try simp only [Nat.reduceEqDiff] at hd); (try simp only [reduceIte] at hd); (try simp only [if_true] at hd); (try simp only [if_false] at hd); (try simp only [and_true] at hd); (try simp only [true_and] at hd); have hc' := hw.cell; go_simp; exact rfl))) | ((with_reducible refine flow_skipg (j := ?_) (b := ?_) ?_ ?_ ?_); rotate_left 2; (focus (with_reducible rfl)); (focus (intro u w1 hw hd; (try simp only [depH] at hd); (try simp only [ext] at hd); (try simp only [Nat.reduceAdd] at hd); (try simp only [Nat.reduceEqDiff] at hd); (try simp only [reduceIte] at hd); (try simp only [if_true] at hd); (try simp only [if_false] at hd); (try simp only [and_true] at hd); (try simp only [true_and] at hd); simp [yielded, hd]; done))) | ((with_reducible refine flow_pureg (v := ?_) (j := ?_) (b := ?_) ?_ ?_ ?_ ?_); rotate_left 3; (focus (with_reducible rfl)); (focus (intro u w1 hw hd; (try simp only [depH] at hd); (try simp only [ext] at hd); (try simp only [Nat.reduceAdd] at hd); (try simp only [Nat.reduceEqDiff] at hd); (try simp only [reduceIte] at hd); (try simp only [if_true] at hd); (try simp only [if_false] at hd); (try simp only [and_true] at hd); (try simp only [true_and] at hd); simp [yielded, hd]; done)); (focus (intro u w1 hw hd; (try simp only [depH] at hd); (try simp only [ext] at hd); (try simp only [Nat.reduceAdd] at hd); (try simp only [Nat.reduceEqDiff] at hd); (try simp only [reduceIte] at hd); (try simp only [if_true] at hd); (try simp only [if_false] at hd); (try simp only [and_true] at hd); (try simp only [true_and] at hd); have hc' := hw.cell; go_simp; exact rfl))) | ((with_reducible refine flow_alloc (t := ?_) (zs := ?_) ?_ ?_ ?_ ?_); rotate_left 2; (focus (with_reducible rfl)); (focus rfl); (focus (intro u w1; go_simp; exact rfl))) | ((with_reducible refine flow_pure0 (v := ?_) ?_ ?_ ?_ ?_); rotate_left 1; (focus (with_reducible rfl)); (focus rfl); (focus (intro u w1 hw hd; (try simp only [depH] at hd); (try simp only [ext] at hd); (try simp only [Nat.reduceAdd] at hd); (try simp only [Nat.reduceEqDiff] at hd); (try simp only [reduceIte] at hd); (try simp only [if_true] at hd); (try simp only [if_false] at hd); (try simp only [and_true] at hd); (try simp only [true_and] at hd); have hc' := hw.cell; go_simp; go_at_call 10; ((with_reducible refine (cz _).mono ?_)); rintro e w'' ⟨rfl, hb⟩; refine ⟨?_, hb⟩; exact rfl))) | ((with_reducible refine flow_pureg (v := ?_) (j := ?_) (b := ?_) ?_ ?_ ?_ ?_); rotate_left 3; (focus (with_reducible rfl)); (focus (intro u w1 hw hd; (try simp only [depH] at hd); (try simp only [ext] at hd); (try simp only [Nat.reduceAdd] at hd); (try simp only [Nat.reduceEqDiff] at hd); (try simp only [reduceIte] at hd); (try simp only [if_true] at hd); (try simp only [if_false] at hd); (try simp only [and_true] at hd); (try simp only [true_and] at hd); simp [yielded, hd]; done)); (focus (intro u w1 hw hd; (try simp only [depH] at hd); (try simp only [ext] at hd); (try simp only [Nat.reduceAdd] at hd); (try simp only [Nat.reduceEqDiff] at hd); (try simp only [reduceIte] at hd); (try simp only [if_true] at hd); (try simp only [if_false] at hd); (try simp only [and_true] at hd); (try simp only [true_and] at hd); have hc' := hw.cell; go_simp; go_at_call 10; ((with_reducible refine (cz _).mono ?_)); rintro e w'' ⟨rfl, hb⟩; refine ⟨?_, hb⟩; exact rfl))))));
        ((try clear hc hf h); intro u w' h ha hdi; replace h := h.ins; (try simp only [World.size_alloc] at h); (try dsimp only at ha); (repeat rw [World.size_alloc] at ha); (try simp only [allH] at ha); (try simp only [ext] at ha); (try simp only [Nat.reduceAdd] at ha); (try simp only [Nat.reduceEqDiff] at ha); (try simp only [reduceIte] at ha); (try simp only [if_true] at ha); (try simp only [if_false] at ha); (try simp only [and_true] at ha); (try simp only [true_and] at ha); have hc := h.cell; have hf := h.frozen);
        ((try obtain ha := ha); (try dsimp only);  simp only [ha]; clear ha hdi );
        (have hfin := hin.call h.bel);
        (clear hc hf h hin);
        (go_wp2_with fail);
        (go_ret);
        (exact ⟨rfl, by rw [← HX.out]; exact hfin.bel⟩))
  · have hn : ¬ (0 : Int) < L := by
      rcases HNO.out with h | h
      · cases h
      · rw [h] at e1; omega
    clear e1
    go_upto_region 7 with fail
    clear x2 xl hn
    ((have hr2 : r ≤ 2048 := by have := HB.out; omega);
        (have hc2 : c ≤ 2048 := by have := HB.out; omega);
        (have hrc : r * c ≤ 36 := Nat.mul_le_mul HB.out.1 HB.out.2.1);
        (have hrc' : r' * c' ≤ 36 := Nat.mul_le_mul hr6 hc6);
        (have hlx : xs.length = r * c := (let ⟨_, _, h, _⟩ := m1; h));
        (have hly : ys.length = r' * c' := (let ⟨_, _, h, _⟩ := m2; h));
        (have d1 := fun W (h : MatAt W (.agg #[.int .i64 r, .int .i64 c, .slice ax L kx]) r c xs) => ofd_any (j := 128) W _ r c xs h hr2 hc2 HZX.out (by omega));
        (have d2 := fun W (h : MatAt W (.agg #[.int .i64 r', .int .i64 c', .slice ay L' ky]) r' c' ys) => ofd_any (j := 128) W _ r' c' ys h (by omega) (by omega) HZ2.out (by omega));
        (have d3 := fun W v (h : SpM W v r c (mvals c xs)) => dense_ok W v r c (mvals c xs) h hr2 hc2);
        (rw [dense_mvals hlx] at d3);
        (have d4 := fun W v (h : MatAt W v r c xs) => lof_any (j := 128) W v r c xs h hr2 hc2 HZX.out (by omega));
        (have HE := Lib.hid (same_dense hlx hly));
        (have HLX := Lib.hid hlx);
        (clear hlx hly hrc hrc');
        (have x0 := g1.c0);
        (have x1 := g1.c1);
        (have x2 := g1.c2);
        (have xl := g1.lt);
        (go_wp2_with fail);
        (((with_reducible refine (d1 _ m1).mono ?_)));
        (rintro e w3 ⟨⟨s, rfl, hs⟩, hb⟩);
        (replace hs := hs.m);
        (obtain ⟨sa, ks, rfl⟩ := hs.shape);
        (replace hin := hin.call hb);
        (replace g1 := g1.call hb);
        (replace g2 := g2.call hb);
        (replace g3 := g3.call hb);
        (replace m1 := m1.call hb);
        (replace m2 := m2.call hb);
        (clear hb d1);
        (clear x0 x1 x2 xl);
        (go_upto_region 8 with fail);
        (obtain ⟨Z1, hZ1⟩ : ∃ z, z = w3.heap.size := ⟨_, rfl⟩);
        (have bZ1 := Bx.new_at w3 #[.int .i64 r, .int .i64 c, .slice sa r ks] 63 hZ1);
        (replace hin := hin.alloc (.cells #[.int .i64 r, .int .i64 c, .slice sa r ks] 63));
        (replace g1 := g1.alloc (.cells #[.int .i64 r, .int .i64 c, .slice sa r ks] 63));
        (replace g2 := g2.alloc (.cells #[.int .i64 r, .int .i64 c, .slice sa r ks] 63));
        (replace g3 := g3.alloc (.cells #[.int .i64 r, .int .i64 c, .slice sa r ks] 63));
        (replace m1 := m1.call ((Below.refl _ _).alloc (Nat.le_refl _) (.cells #[.int .i64 r, .int .i64 c, .slice sa r ks] 63)));
        (replace m2 := m2.call ((Below.refl _ _).alloc (Nat.le_refl _) (.cells #[.int .i64 r, .int .i64 c, .slice sa r ks] 63)));
        (replace hs := hs.call ((Below.refl _ _).alloc (Nat.le_refl _) (.cells #[.int .i64 r, .int .i64 c, .slice sa r ks] 63)));
        (rw [← hZ1]);
        (clear hZ1);
        (generalize w3.alloc (.cells #[.int .i64 r, .int .i64 c, .slice sa r ks] 63) = W3 at *);
        (have y0 := g2.c0);
        (have y1 := g2.c1);
        (have y2 := g2.c2);
        (have yl := g2.lt);
        (go_wp2_with fail);
        (((with_reducible refine (d2 _ m2).mono ?_)));
        (rintro e w4 ⟨⟨t, rfl, ht⟩, hb⟩);
        (replace ht := ht.m);
        (obtain ⟨at_, kt, rfl⟩ := ht.shape);
        (replace hin := hin.call hb);
        (replace g1 := g1.call hb);
        (replace g2 := g2.call hb);
        (replace g3 := g3.call hb);
        (replace m1 := m1.call hb);
        (replace m2 := m2.call hb);
        (replace hs := hs.call hb);
        (replace bZ1 := bZ1.call hb);
        (clear hb d2);
        (clear y0 y1 y2 yl);
        (go_upto_region 9 with fail);
        (obtain ⟨Z2, hZ2⟩ : ∃ z, z = w4.heap.size := ⟨_, rfl⟩);
        (have bZ2 := Bx.new_at w4 #[.int .i64 r', .int .i64 c', .slice at_ r' kt] 63 hZ2);
        (replace hin := hin.alloc (.cells #[.int .i64 r', .int .i64 c', .slice at_ r' kt] 63));
        (replace g1 := g1.alloc (.cells #[.int .i64 r', .int .i64 c', .slice at_ r' kt] 63));
        (replace g2 := g2.alloc (.cells #[.int .i64 r', .int .i64 c', .slice at_ r' kt] 63));
        (replace g3 := g3.alloc (.cells #[.int .i64 r', .int .i64 c', .slice at_ r' kt] 63));
        (replace bZ1 := bZ1.alloc (.cells #[.int .i64 r', .int .i64 c', .slice at_ r' kt] 63));
        (replace m1 := m1.call ((Below.refl _ _).alloc (Nat.le_refl _) (.cells #[.int .i64 r', .int .i64 c', .slice at_ r' kt] 63)));
        (replace m2 := m2.call ((Below.refl _ _).alloc (Nat.le_refl _) (.cells #[.int .i64 r', .int .i64 c', .slice at_ r' kt] 63)));
        (replace hs := hs.call ((Below.refl _ _).alloc (Nat.le_refl _) (.cells #[.int .i64 r', .int .i64 c', .slice at_ r' kt] 63)));
        (replace ht := ht.call ((Below.refl _ _).alloc (Nat.le_refl _) (.cells #[.int .i64 r', .int .i64 c', .slice at_ r' kt] 63)));
        (rw [← hZ2]);
        (clear hZ2);
        (generalize w4.alloc (.cells #[.int .i64 r', .int .i64 c', .slice at_ r' kt] 63) = W4 at *);
        (have z0 := bZ1.c0);
        (have z1 := bZ1.c1);
        (have z2 := bZ1.c2);
        (have zl := bZ1.lt);
        (go_wp2_with fail);
        (((with_reducible refine (d3 _ _ hs).mono ?_)));
        (rintro e w5 ⟨⟨d, rfl, hd⟩, hb⟩);
        (obtain ⟨ad, kd, rfl⟩ := hd.shape);
        (obtain ⟨Ld, hLd⟩ : ∃ Ld, Ld = xs.length := ⟨_, rfl⟩);
        (rw [← hLd] at hd ⊢);
        (replace hin := hin.call hb);
        (replace g1 := g1.call hb);
        (replace g2 := g2.call hb);
        (replace g3 := g3.call hb);
        (replace m1 := m1.call hb);
        (replace m2 := m2.call hb);
        (replace hs := hs.call hb);
        (replace ht := ht.call hb);
        (replace bZ1 := bZ1.call hb);
        (replace bZ2 := bZ2.call hb);
        (clear hb d3 hLd);
        (clear z0 z1 z2 zl);
        (go_upto_region 10 with fail);
        (obtain ⟨Z3, hZ3⟩ : ∃ z, z = w5.heap.size := ⟨_, rfl⟩);
        (have bZ3 := Bx.new_at w5 #[.int .i64 r, .int .i64 c, .slice ad Ld kd] 78 hZ3);
        (replace hin := hin.alloc (.cells #[.int .i64 r, .int .i64 c, .slice ad Ld kd] 78));
        (replace g1 := g1.alloc (.cells #[.int .i64 r, .int .i64 c, .slice ad Ld kd] 78));
        (replace g2 := g2.alloc (.cells #[.int .i64 r, .int .i64 c, .slice ad Ld kd] 78));
        (replace bZ1 := bZ1.alloc (.cells #[.int .i64 r, .int .i64 c, .slice ad Ld kd] 78));
        (replace bZ2 := bZ2.alloc (.cells #[.int .i64 r, .int .i64 c, .slice ad Ld kd] 78));
        (replace m1 := m1.call ((Below.refl _ _).alloc (Nat.le_refl _) (.cells #[.int .i64 r, .int .i64 c, .slice ad Ld kd] 78)));
        (replace m2 := m2.call ((Below.refl _ _).alloc (Nat.le_refl _) (.cells #[.int .i64 r, .int .i64 c, .slice ad Ld kd] 78)));
        (replace hs := hs.call ((Below.refl _ _).alloc (Nat.le_refl _) (.cells #[.int .i64 r, .int .i64 c, .slice ad Ld kd] 78)));
        (replace ht := ht.call ((Below.refl _ _).alloc (Nat.le_refl _) (.cells #[.int .i64 r, .int .i64 c, .slice ad Ld kd] 78)));
        (replace hd := hd.call ((Below.refl _ _).alloc (Nat.le_refl _) (.cells #[.int .i64 r, .int .i64 c, .slice ad Ld kd] 78)));
        (rw [← hZ3]);
        (clear hZ3);
        (generalize w5.alloc (.cells #[.int .i64 r, .int .i64 c, .slice ad Ld kd] 78) = W5 at *);
        (have e1 := fun W (h : In W5.heap.size W5 W) => msame_any W _ _ r c r c xs xs (hd.call h.bel) (m1.call h.bel) (by rw [HLX.out]; have := Nat.mul_le_mul HB.out.1 HB.out.2.1; omega));
        (rw [show sameD r c xs r c xs = true by simp [sameD]] at e1);
        (have e2 := fun W (h : In W5.heap.size W5 W) => ssame_ok (hs.call h.bel) (ht.call h.bel) hr2 hc2);
        (rw [HE.out] at e2);
        (have e3 := fun W (h : In W5.heap.size W5 W) => msame_any W _ _ r c r' c' xs ys (m1.call h.bel) (m2.call h.bel) (by rw [HLX.out]; have := Nat.mul_le_mul HB.out.1 HB.out.2.1; omega));
        (have e4 : ∀ W, In W5.heap.size W5 W → Calls Tryz.prog 29 #[.agg #[.int .i64 r, .int .i64 c, .slice ad Ld kd]] W fun e w' => (∃ s, e = .returned s ∧ SpM w' s r c (mvals c xs)) ∧ Below W.heap.size W w' := fun W h => (d4 W _ (hd.call h.bel)).mono fun e w' ⟨⟨s, h1, h2⟩, h3⟩ => ⟨⟨s, h1, h2.m⟩, h3⟩);
        (have e5 : ∀ W v, In W5.heap.size W5 W → SpM W v r c (mvals c xs) → Calls Tryz.prog 23 #[.agg #[.int .i64 r, .int .i64 c, .slice sa r ks], v] W fun e w' => e = .returned (.bool true) ∧ Below W.heap.size W w' := fun W v h h2 => (ssame_ok (hs.call h.bel) h2 hr2 hc2).mono fun e w' ⟨h3, h4⟩ => ⟨by rw [h3, sameM_self (fun _ _ _ _ => rfl)], h4⟩);
        (obtain ⟨z, hz⟩ : ∃ z, z = sameD r c xs r' c' ys := ⟨_, rfl⟩);
        (rw [← hz] at e2 e3);
        (clear hz);
        (have x0 := g1.c0);
        (have x1 := g1.c1);
        (have x2 := g1.c2);
        (have xl := g1.lt);
        (have y0 := g2.c0);
        (have y1 := g2.c1);
        (have y2 := g2.c2);
        (have yl := g2.lt);
        (have s0 := bZ1.c0);
        (have s1 := bZ1.c1);
        (have s2 := bZ1.c2);
        (have sl := bZ1.lt);
        (have t0 := bZ2.c0);
        (have t1 := bZ2.c1);
        (have t2 := bZ2.c2);
        (have tl := bZ2.lt);
        (have d0 := bZ3.c0);
        (have d1 := bZ3.c1);
        (have d2 := bZ3.c2);
        (have dl := bZ3.lt);
        (clear g1 g2 g3 m1 m2 hs ht hd bZ1 bZ2 bZ3 d4);
        (have h := In.self W5);
        (have hc := h.cell);
        (refine wp_region_flow 33 (by kernel_rfl) (by kernel_rfl) (fun _ _ d _ _ h => by cases d <;> exact h) ?_; simp only [List.take_succ_cons, List.take_zero, List.drop_succ_cons, List.drop_zero]; simp only [putAll, Act.put, List.setIfInBounds_toArray, List.set]; (try simp only [Nat.reduceAdd]); (try simp only [Nat.zero_add]); (repeat (first | ((with_reducible refine flow_float (v := ?_) ?_ ?_ ?_); rotate_left 1; (focus (with_reducible rfl)); (focus (intro u w1 hw hd w2; (try simp only [depH] at hd); (try simp only [ext] at hd); (try simp only [Nat.reduceAdd] at hd); (try simp only [Nat.reduceEqDiff] at hd); (try simp only [reduceIte] at hd); (try simp only [if_true] at hd); (try simp only [if_false] at hd); (try simp only [and_true] at hd); (try simp only [true_and] at hd); go_simp; exact rfl))) | ((with_reducible refine flow_pure0 (v := ?_) ?_ ?_ ?_ ?_); rotate_left 1; (focus (with_reducible rfl)); (focus rfl); (focus (intro u w1 hw hd; (try simp only [depH] at hd); (try simp only [ext] at hd); (try simp only [Nat.reduceAdd] at hd); (try simp only [Nat.reduceEqDiff] at hd); (try simp only [reduceIte] at hd); (try simp only [if_true] at hd); (try simp only [if_false] at hd); (try simp only [and_true] at hd); (try simp only [true_and] at hd); have hc' := hw.cell; go_simp; exact rfl))) | ((with_reducible refine flow_skipg (j := ?_) (b := ?_) ?_ ?_ ?_); rotate_left 2; (focus (with_reducible rfl)); (focus (intro u w1 hw hd; (try simp only [depH] at hd); (try simp only [ext] at hd); (try simp only [Nat.reduceAdd] at hd); (try simp only [Nat.reduceEqDiff] at hd); (try simp only [reduceIte] at hd); (try simp only [if_true] at hd); (try simp only [if_false] at hd); (try simp only [and_true] at hd); (try simp only [true_and] at hd); simp [yielded, hd]; done))) | ((with_reducible refine flow_pureg (v := ?_) (j := ?_) (b := ?_) ?_ ?_ ?_ ?_); rotate_left 3; (focus (with_reducible rfl)); (focus (intro u w1 hw hd; (try simp only [depH] at hd); (try simp only [ext] at hd); (try simp only [Nat.reduceAdd] at hd); (try simp only [Nat.reduceEqDiff] at hd); (try simp only [reduceIte] at hd); (try simp only [if_true] at hd); (try simp only [if_false] at hd); (try simp only [and_true] at hd); (try simp only [true_and] at hd); simp [yielded, hd]; done)); (focus (intro u w1 hw hd; (try simp only [depH] at hd); (try simp only [ext] at hd); (try simp only [Nat.reduceAdd] at hd); (try simp only [Nat.reduceEqDiff] at hd); (try simp only [reduceIte] at hd); (try simp only [if_true] at hd); (try simp only [if_false] at hd); (try simp only [and_true] at hd); (try simp only [true_and] at hd); have hc' := hw.cell; go_simp; exact rfl))) | ((with_reducible refine flow_alloc (t := ?_) (zs := ?_) ?_ ?_ ?_ ?_); rotate_left 2; (focus (with_reducible rfl)); (focus rfl); (focus (intro u w1; go_simp; exact rfl))) | ((with_reducible refine flow_pure0 (v := ?_) ?_ ?_ ?_ ?_); rotate_left 1; (focus (with_reducible rfl)); (focus rfl); (focus (intro u w1 hw hd; (try simp only [depH] at hd); (try simp only [ext] at hd); (try simp only [Nat.reduceAdd] at hd); (try simp only [Nat.reduceEqDiff] at hd); (try simp only [reduceIte] at hd); (try simp only [if_true] at hd); (try simp only [if_false] at hd); (try simp only [and_true] at hd); (try simp only [true_and] at hd); have hc' := hw.cell; go_simp; go_at_call 28; ((with_reducible refine (e1 _ hw.ins).mono ?_)); rintro e w'' ⟨rfl, hb⟩; refine ⟨?_, hb⟩; exact rfl))) | ((with_reducible refine flow_pureg (v := ?_) (j := ?_) (b := ?_) ?_ ?_ ?_ ?_); rotate_left 3; (focus (with_reducible rfl)); (focus (intro u w1 hw hd; (try simp only [depH] at hd); (try simp only [ext] at hd); (try simp only [Nat.reduceAdd] at hd); (try simp only [Nat.reduceEqDiff] at hd); (try simp only [reduceIte] at hd); (try simp only [if_true] at hd); (try simp only [if_false] at hd); (try simp only [and_true] at hd); (try simp only [true_and] at hd); simp [yielded, hd]; done)); (focus (intro u w1 hw hd; (try simp only [depH] at hd); (try simp only [ext] at hd); (try simp only [Nat.reduceAdd] at hd); (try simp only [Nat.reduceEqDiff] at hd); (try simp only [reduceIte] at hd); (try simp only [if_true] at hd); (try simp only [if_false] at hd); (try simp only [and_true] at hd); (try simp only [true_and] at hd); have hc' := hw.cell; go_simp; go_at_call 28; ((with_reducible refine (e1 _ hw.ins).mono ?_)); rintro e w'' ⟨rfl, hb⟩; refine ⟨?_, hb⟩; exact rfl))) | ((with_reducible refine flow_pure0 (v := ?_) ?_ ?_ ?_ ?_); rotate_left 1; (focus (with_reducible rfl)); (focus rfl); (focus (intro u w1 hw hd; (try simp only [depH] at hd); (try simp only [ext] at hd); (try simp only [Nat.reduceAdd] at hd); (try simp only [Nat.reduceEqDiff] at hd); (try simp only [reduceIte] at hd); (try simp only [if_true] at hd); (try simp only [if_false] at hd); (try simp only [and_true] at hd); (try simp only [true_and] at hd); have hc' := hw.cell; go_simp; go_at_call 23; ((with_reducible refine (e2 _ hw.ins).mono ?_)); rintro e w'' ⟨rfl, hb⟩; refine ⟨?_, hb⟩; exact rfl))) | ((with_reducible refine flow_pureg (v := ?_) (j := ?_) (b := ?_) ?_ ?_ ?_ ?_); rotate_left 3; (focus (with_reducible rfl)); (focus (intro u w1 hw hd; (try simp only [depH] at hd); (try simp only [ext] at hd); (try simp only [Nat.reduceAdd] at hd); (try simp only [Nat.reduceEqDiff] at hd); (try simp only [reduceIte] at hd); (try simp only [if_true] at hd); (try simp only [if_false] at hd); (try simp only [and_true] at hd); (try simp only [true_and] at hd); simp [yielded, hd]; done)); (focus (intro u w1 hw hd; (try simp only [depH] at hd); (try simp only [ext] at hd); (try simp only [Nat.reduceAdd] at hd); (try simp only [Nat.reduceEqDiff] at hd); (try simp only [reduceIte] at hd); (try simp only [if_true] at hd); (try simp only [if_false] at hd); (try simp only [and_true] at hd); (try simp only [true_and] at hd); have hc' := hw.cell; go_simp; go_at_call 23; ((with_reducible refine (e2 _ hw.ins).mono ?_)); rintro e w'' ⟨rfl, hb⟩; refine ⟨?_, hb⟩; exact rfl))) | ((with_reducible refine flow_pure0 (v := ?_) ?_ ?_ ?_ ?_); rotate_left 1; (focus (with_reducible rfl)); (focus rfl); (focus (intro u w1 hw hd; (try simp only [depH] at hd); (try simp only [ext] at hd); (try simp only [Nat.reduceAdd] at hd); (try simp only [Nat.reduceEqDiff] at hd); (try simp only [reduceIte] at hd); (try simp only [if_true] at hd); (try simp only [if_false] at hd); (try simp only [and_true] at hd); (try simp only [true_and] at hd); have hc' := hw.cell; go_simp; go_at_call 28; ((with_reducible refine (e3 _ hw.ins).mono ?_)); rintro e w'' ⟨rfl, hb⟩; refine ⟨?_, hb⟩; exact rfl))) | ((with_reducible refine flow_pureg (v := ?_) (j := ?_) (b := ?_) ?_ ?_ ?_ ?_); rotate_left 3; (focus (with_reducible rfl)); (focus (intro u w1 hw hd; (try simp only [depH] at hd); (try simp only [ext] at hd); (try simp only [Nat.reduceAdd] at hd); (try simp only [Nat.reduceEqDiff] at hd); (try simp only [reduceIte] at hd); (try simp only [if_true] at hd); (try simp only [if_false] at hd); (try simp only [and_true] at hd); (try simp only [true_and] at hd); simp [yielded, hd]; done)); (focus (intro u w1 hw hd; (try simp only [depH] at hd); (try simp only [ext] at hd); (try simp only [Nat.reduceAdd] at hd); (try simp only [Nat.reduceEqDiff] at hd); (try simp only [reduceIte] at hd); (try simp only [if_true] at hd); (try simp only [if_false] at hd); (try simp only [and_true] at hd); (try simp only [true_and] at hd); have hc' := hw.cell; go_simp; go_at_call 28; ((with_reducible refine (e3 _ hw.ins).mono ?_)); rintro e w'' ⟨rfl, hb⟩; refine ⟨?_, hb⟩; exact rfl))))));
        ((with_reducible refine flow_relg (Vi := fun x W => SpM W x r c (mvals c xs)) (j := ?_) (b := ?_) ?_ ?_ ?_ ?_ ?_); rotate_left 2; (focus (with_reducible rfl)); (focus (intro u w1 hw hd; (try simp only [depH] at hd); (try simp only [ext] at hd); (try simp only [Nat.reduceAdd] at hd); (try simp only [Nat.reduceEqDiff] at hd); (try simp only [reduceIte] at hd); (try simp only [if_true] at hd); (try simp only [if_false] at hd); (try simp only [and_true] at hd); (try simp only [true_and] at hd); simp [yielded, hd]; done)); (focus exact stable_spm _ _ _); (focus (intro u w1 hw hd; (try simp only [depH] at hd); (try simp only [ext] at hd); (try simp only [Nat.reduceAdd] at hd); (try simp only [Nat.reduceEqDiff] at hd); (try simp only [reduceIte] at hd); (try simp only [if_true] at hd); (try simp only [if_false] at hd); (try simp only [and_true] at hd); (try simp only [true_and] at hd); have hc' := hw.cell; go_simp; (try simp only [okUpon]); go_at_call 29; ((with_reducible refine (e4 _ hw.ins).mono ?_)); rintro e w'' ⟨⟨v, rfl, hv⟩, hb⟩; exact ⟨v, rfl, ⟨hv, fun h => by cases h⟩, hb⟩)));
        (((with_reducible refine flow_pureg (v := .bool true) (j := ?_) (b := ?_) ?_ ?_ ?_ ?_); rotate_left 2; (focus (with_reducible rfl)); (focus (intro u w1 hw hd; (try simp only [depH] at hd); (try simp only [ext] at hd); (try simp only [Nat.reduceAdd] at hd); (try simp only [Nat.reduceEqDiff] at hd); (try simp only [reduceIte] at hd); (try simp only [if_true] at hd); (try simp only [if_false] at hd); (try simp only [and_true] at hd); (try simp only [true_and] at hd); simp [yielded, hd]; done)); (focus (intro u w1 hw hd; (try simp only [depH] at hd); (try simp only [ext] at hd); (try simp only [Nat.reduceAdd] at hd); (try simp only [Nat.reduceEqDiff] at hd); (try simp only [reduceIte] at hd); (try simp only [if_true] at hd); (try simp only [if_false] at hd); (try simp only [and_true] at hd); (try simp only [true_and] at hd); obtain ⟨hd1, hd2, _⟩ := hd; go_simp; go_at_call 23; refine (e5 _ _ hw.ins hd2).mono ?_; rintro e w'' ⟨rfl, hb⟩; exact ⟨rfl, hb⟩))));
        ((repeat (first | ((with_reducible refine flow_float (v := ?_) ?_ ?_ ?_); rotate_left 1; (focus (with_reducible rfl)); (focus (intro u w1 hw hd w2; (try simp only [depH] at hd); (try simp only [ext] at hd); (try simp only [Nat.reduceAdd] at hd); (try simp only [Nat.reduceEqDiff] at hd); (try simp only [reduceIte] at hd); (try simp only [if_true] at hd); (try simp only [if_false] at hd); (try simp only [and_true] at hd); (try simp only [true_and] at hd); go_simp; exact rfl))) | ((with_reducible refine flow_pure0 (v := ?_) ?_ ?_ ?_ ?_); rotate_left 1; (focus (with_reducible rfl)); (focus rfl); (focus (intro u w1 hw hd; (try simp only [depH] at hd); (try simp only [ext] at hd); (try simp only [Nat.reduceAdd] at hd); (try simp only [Nat.reduceEqDiff] at hd); (try simp only [reduceIte] at hd); (try simp only [if_true] at hd); (try simp only [if_false] at hd); (try simp only [and_true] at hd); (try simp only [true_and] at hd); have hc' := hw.cell; go_simp; exact rfl))) | ((with_reducible refine flow_skipg (j := ?_) (b := ?_) ?_ ?_ ?_); rotate_left 2; (focus (with_reducible rfl)); (focus (intro u w1 hw hd; (try simp only [depH] at hd); (try simp only [ext] at hd); (try simp only [Nat.reduceAdd] at hd); (try simp only [Nat.reduceEqDiff] at hd); (try simp only [reduceIte] at hd); (try simp only [if_true] at hd); (try simp only [if_false] at hd); (try simp only [and_true] at hd); (try simp only [true_and] at hd); simp [yielded, hd]; done))) | ((with_reducible refine flow_pureg (v := ?_) (j := ?_) (b := ?_) ?_ ?_ ?_ ?_); rotate_left 3; (focus (with_reducible rfl)); (focus (intro u w1 hw hd; (try simp only [depH] at hd); (try simp only [ext] at hd); (try simp only [Nat.reduceAdd] at hd); (try simp only [Nat.reduceEqDiff] at hd); (try simp only [reduceIte] at hd); (try simp only [if_true] at hd); (try simp only [if_false] at hd); (try simp only [and_true] at hd); (try simp only [true_and] at hd); simp [yielded, hd]; done)); (focus (intro u w1 hw hd; (try simp only [depH] at hd); (try simp only [ext] at hd); (try simp only [Nat.reduceAdd] at hd); (try simp only [Nat.reduceEqDiff] at hd); (try simp only [reduceIte] at hd); (try simp only [if_true] at hd); (try simp only [if_false] at hd); (try simp only [and_true] at hd); (try simp only [true_and] at hd); have hc' := hw.cell; go_simp; exact rfl))) | ((with_reducible refine flow_alloc (t := ?_) (zs := ?_) ?_ ?_ ?_ ?_); rotate_left 2; (focus (with_reducible rfl)); (focus rfl); (focus (intro u w1; go_simp; exact rfl))) | ((with_reducible refine flow_pure0 (v := ?_) ?_ ?_ ?_ ?_); rotate_left 1; (focus (with_reducible rfl)); (focus rfl); (focus (intro u w1 hw hd; (try simp only [depH] at hd); (try simp only [ext] at hd); (try simp only [Nat.reduceAdd] at hd); (try simp only [Nat.reduceEqDiff] at hd); (try simp only [reduceIte] at hd); (try simp only [if_true] at hd); (try simp only [if_false] at hd); (try simp only [and_true] at hd); (try simp only [true_and] at hd); have hc' := hw.cell; go_simp; go_at_call 10; ((with_reducible refine (cz _).mono ?_)); rintro e w'' ⟨rfl, hb⟩; refine ⟨?_, hb⟩; exact rfl))) | ((with_reducible refine flow_pureg (v := ?_) (j := ?_) (b := ?_) ?_ ?_ ?_ ?_); rotate_left 3; (focus (with_reducible rfl)); (focus (intro u w1 hw hd; (try simp only [depH] at hd); (try simp only [ext] at hd); (try simp only [Nat.reduceAdd] at hd); (try simp only [Nat.reduceEqDiff] at hd); (try simp only [reduceIte] at hd); (try simp only [if_true] at hd); (try simp only [if_false] at hd); (try simp only [and_true] at hd); (try simp only [true_and] at hd); simp [yielded, hd]; done)); (focus (intro u w1 hw hd; (try simp only [depH] at hd); (try simp only [ext] at hd); (try simp only [Nat.reduceAdd] at hd); (try simp only [Nat.reduceEqDiff] at hd); (try simp only [reduceIte] at hd); (try simp only [if_true] at hd); (try simp only [if_false] at hd); (try simp only [and_true] at hd); (try simp only [true_and] at hd); have hc' := hw.cell; go_simp; go_at_call 10; ((with_reducible refine (cz _).mono ?_)); rintro e w'' ⟨rfl, hb⟩; refine ⟨?_, hb⟩; exact rfl))))));
        ((try clear hc hf h); intro u w' h ha hdi; replace h := h.ins; (try simp only [World.size_alloc] at h); (try dsimp only at ha); (repeat rw [World.size_alloc] at ha); (try simp only [allH] at ha); (try simp only [ext] at ha); (try simp only [Nat.reduceAdd] at ha); (try simp only [Nat.reduceEqDiff] at ha); (try simp only [reduceIte] at ha); (try simp only [if_true] at ha); (try simp only [if_false] at ha); (try simp only [and_true] at ha); (try simp only [true_and] at ha); have hc := h.cell; have hf := h.frozen);
        ((try obtain ha := ha); (try dsimp only);  simp only [ha]; clear ha hdi );
        (have hfin := hin.call h.bel);
        (clear hc hf h hin);
        (go_wp2_with fail);
        (go_ret);
        (exact ⟨rfl, by rw [← HX.out]; exact hfin.bel⟩))
end Gus
end
section
/- gussetlaw16.SparsesSame where the second matrix is a changed copy. -/
namespace Gus
open Go Go.RowKit Go.Proofs
set_option maxRecDepth 100000 in
set_option maxHeartbeats 4000000 in
theorem same_copy (w : World) (R0 C0 R1 C1 : Nat) (hR0 : R0 < 256) (hC0 : C0 < 256) (hR1 : R1 < 256) (hC1 : C1 < 256) (a b : Option Addr) (ca cb at0 : Nat) (hat : at0 < 256) (qa qb : List (Int × Int)) (hqa : QAt w a qa) (hqb : QAt w b qb) (hoa : QOk qa) (hob : QOk qb) (hla : qa.length ≤ 40) (hlb : qb.length ≤ 40) 
    (vn vd : Int) (hv0 : -9223372036854775808 ≤ vn) (hv1 : vn < 9223372036854775808) (hv2 : 0 ≤ vd) (hv3 : vd < 4294967296) (hn : 0 < R0 % 7 * (C0 % 7)) :
    Calls Tryz.prog 4 #[.agg #[.int .u8 R0, .int .u8 C0, .slice a qa.length ca], .agg #[.int .u8 R1, .int .u8 C1, .slice b qb.length cb], .bool true, .int .u8 at0, .agg #[.int .i64 vn, .int .u32 vd]] w fun e w' => e = .returned (.bool true) ∧ Below w.heap.size w w' := by
  have c0 := fun W b1 T h => small_two W b1 T R0 C0 R1 C1 a b qa.length qb.length ca cb (by omega) (by omega) h
  rw [show (decide (qa.length ≤ 40) && decide (qb.length ≤ 40)) = true by simp; omega] at c0
  have cz := works_any
  have c1 := fun W (h : QAt W a qa) => mof_any W R0 C0 hR0 hC0 a ca qa h hoa (by omega)
  have c2 := fun W (h : QAt W b qb) => mof_any W R1 C1 hR1 hC1 b cb qb h hob (by omega)
  obtain ⟨la, hLa⟩ : ∃ la, la = qa.length := ⟨_, rfl⟩
  obtain ⟨lb, hLb⟩ : ∃ lb, lb = qb.length := ⟨_, rfl⟩
  rw [← hLa, ← hLb] at c0
  rw [← hLa] at c1 ⊢
  rw [← hLb] at c2 ⊢
  obtain ⟨r, hr⟩ : ∃ r, r = R0 % 7 := ⟨_, rfl⟩
  obtain ⟨c, hcc⟩ : ∃ c, c = C0 % 7 := ⟨_, rfl⟩
  obtain ⟨r', hr'⟩ : ∃ r, r = R1 % 7 := ⟨_, rfl⟩
  obtain ⟨c', hcc'⟩ : ∃ c, c = C1 % 7 := ⟨_, rfl⟩
  rw [← hr, ← hcc] at c1
  rw [← hr', ← hcc'] at c2
  obtain ⟨xs, hxs⟩ : ∃ xs, xs = mList qa (r * c) := ⟨_, rfl⟩
  obtain ⟨ys, hys⟩ : ∃ ys, ys = mList qb (r' * c') := ⟨_, rfl⟩
  rw [← hxs] at c1
  rw [← hys] at c2
  have hzx : ∀ i, SzK 128 (xs.getD i 0) := fun i => by rw [hxs]; exact mList_szk hoa _ _
  have hzy : ∀ i, SzK 128 (ys.getD i 0) := fun i => by rw [hys]; exact mList_szk hob _ _
  have hr6 : r ≤ 6 := by omega
  have hc6 : c ≤ 6 := by omega
  have hr6' : r' ≤ 6 := by omega
  have hc6' : c' ≤ 6 := by omega
  have HZX := Lib.hid hzx
  have HZY := Lib.hid hzy
  have HB := Lib.hid (And.intro hr6 (And.intro hc6 (And.intro hr6' hc6')))
  rw [← hr, ← hcc] at hn
  have HNO := Lib.hid hn
  clear hn
  clear hr hcc hr' hcc' hxs hys hzx hzy hr6 hc6 hr6' hc6' hLa hLb hoa hob hla hlb
  obtain ⟨X, hX⟩ : ∃ X, X = w.heap.size := ⟨_, rfl⟩
  have HX := Lib.hid hX
  have HQA := Lib.hid hqa
  have HQB := Lib.hid hqb
  clear hqa hqb
  go_enter Tryz.func4, Tryz.ntmps4
  go_wp2_with fail
  ((with_reducible refine (c0 _ _ 74 ?_).mono ?_))
  · exact Bx.new_at _ _ _ (by simp)
  rintro e w1 ⟨rfl, hb⟩
  have hin := (((((In.self w).alloc (.cells #[.int .u8 R0, .int .u8 C0, .slice a la ca] 74)).alloc (.cells #[.int .u8 R1, .int .u8 C1, .slice b lb cb] 74)).alloc (.cells #[.int .i64 vn, .int .u32 vd] 35)).alloc (.cells #[.int .u8 R0, .int .u8 C0, .slice a la ca, .int .u8 R1, .int .u8 C1, .slice b lb cb] 74)).call hb
  have ba := ((((Bx.new_at w #[.int .u8 R0, .int .u8 C0, .slice a la ca] 74 hX).alloc (.cells #[.int .u8 R1, .int .u8 C1, .slice b lb cb] 74)).alloc (.cells #[.int .i64 vn, .int .u32 vd] 35)).alloc (.cells #[.int .u8 R0, .int .u8 C0, .slice a la ca, .int .u8 R1, .int .u8 C1, .slice b lb cb] 74)).call hb
  have bb := (((Bx.new_at (w.alloc (.cells #[.int .u8 R0, .int .u8 C0, .slice a la ca] 74)) #[.int .u8 R1, .int .u8 C1, .slice b lb cb] 74 (n := X + 1) (by simp [hX])).alloc (.cells #[.int .i64 vn, .int .u32 vd] 35)).alloc (.cells #[.int .u8 R0, .int .u8 C0, .slice a la ca, .int .u8 R1, .int .u8 C1, .slice b lb cb] 74)).call hb
  have bq := ((Bx.new_at ((w.alloc (.cells #[.int .u8 R0, .int .u8 C0, .slice a la ca] 74)).alloc (.cells #[.int .u8 R1, .int .u8 C1, .slice b lb cb] 74)) #[.int .i64 vn, .int .u32 vd] 35 (n := X + 1 + 1) (by simp [hX])).alloc (.cells #[.int .u8 R0, .int .u8 C0, .slice a la ca, .int .u8 R1, .int .u8 C1, .slice b lb cb] 74)).call hb
  rw [← hX] at hin ⊢
  clear hX hb c0
  have a0 := ba.c0
  have a1 := ba.c1
  have a2 := ba.c2
  have b0 := bb.c0
  have b1 := bb.c1
  have b2 := bb.c2
  have hal := ba.lt
  have hbl := bb.lt
  have hqa : QAt w1 a qa := HQA.out.call (by rw [← HX.out]; exact hin.bel)
  have hqb : QAt w1 b qb := HQB.out.call (by rw [← HX.out]; exact hin.bel)
  go_upto_region 3 with fail
  have h := In.self w1
  have hc := h.cell
  refine wp_region_flow 6 (by kernel_rfl) (by kernel_rfl) (fun _ _ d _ _ h => by cases d <;> exact h) ?_; simp only [List.take_succ_cons, List.take_zero, List.drop_succ_cons, List.drop_zero]; simp only [putAll, Act.put, List.setIfInBounds_toArray, List.set]; (try simp only [Nat.reduceAdd]); (try simp only [Nat.zero_add]); (repeat (first | ((with_reducible refine flow_float (v := ?_) ?_ ?_ ?_); rotate_left 1; (focus (with_reducible rfl)); (focus (intro u w1 hw hd w2; (try simp only [depH] at hd); (try simp only [ext] at hd); (try simp only [Nat.reduceAdd] at hd); (try simp only [Nat.reduceEqDiff] at hd); (try simp only [reduceIte] at hd); (try simp only [if_true] at hd); (try simp only [if_false] at hd); (try simp only [and_true] at hd); (try simp only [true_and] at hd); go_simp; exact rfl))) | ((with_reducible refine flow_pure0 (v := ?_) ?_ ?_ ?_ ?_); rotate_left 1; (focus (with_reducible rfl)); (focus rfl); (focus (intro u w1 hw hd; (try simp only [depH] at hd); (try simp only [ext] at hd); (try simp only [Nat.reduceAdd] at hd); (try simp only [Nat.reduceEqDiff] at hd); (try simp only [reduceIte] at hd); (try simp only [if_true] at hd); (try simp only [if_false] at hd); (try simp only [and_true] at hd); (try simp only [true_and] at hd); have hc' := hw.cell; go_simp; exact rfl))) | ((with_reducible refine flow_skipg (j := ?_) (b := ?_) ?_ ?_ ?_); rotate_left 2; (focus (with_reducible rfl)); (focus (intro u w1 hw hd; (try simp only [depH] at hd); (try simp only [ext] at hd); (try simp only [Nat.reduceAdd] at hd); (try simp only [Nat.reduceEqDiff] at hd); (try simp only [reduceIte] at hd); (try simp only [if_true] at hd); (try simp only [if_false] at hd); (try simp only [and_true] at hd); (try simp only [true_and] at hd); simp [yielded, hd]; done))) | ((with_reducible refine flow_pureg (v := ?_) (j := ?_) (b := ?_) ?_ ?_ ?_ ?_); rotate_left 3; (focus (with_reducible rfl)); (focus (intro u w1 hw hd; (try simp only [depH] at hd); (try simp only [ext] at hd); (try simp only [Nat.reduceAdd] at hd); (try simp only [Nat.reduceEqDiff] at hd); (try simp only [reduceIte] at hd); (try simp only [if_true] at hd); (try simp only [if_false] at hd); (try simp only [and_true] at hd); (try simp only [true_and] at hd); simp [yielded, hd]; done)); (focus (intro u w1 hw hd; (try simp only [depH] at hd); (try simp only [ext] at hd); (try simp only [Nat.reduceAdd] at hd); (try simp only [Nat.reduceEqDiff] at hd); (try simp only [reduceIte] at hd); (try simp only [if_true] at hd); (try simp only [if_false] at hd); (try simp only [and_true] at hd); (try simp only [true_and] at hd); have hc' := hw.cell; go_simp; exact rfl))) | ((with_reducible refine flow_alloc (t := ?_) (zs := ?_) ?_ ?_ ?_ ?_); rotate_left 2; (focus (with_reducible rfl)); (focus rfl); (focus (intro u w1; go_simp; exact rfl)))))
  (with_reducible refine flow_rel (Vi := fun x W => MatAt W x r c xs) false ?_ ?_ ?_ ?_ ?_ ?_); (focus rfl); (focus rfl); (focus exact stable_mat _ _ _); (focus exact placed_false _); (focus (intro u w1 hw hd; (try simp only [depH] at hd); (try simp only [ext] at hd); (try simp only [Nat.reduceAdd] at hd); (try simp only [Nat.reduceEqDiff] at hd); (try simp only [reduceIte] at hd); (try simp only [if_true] at hd); (try simp only [if_false] at hd); (try simp only [and_true] at hd); (try simp only [true_and] at hd); have hc' := hw.cell; go_simp; (try simp only [okUpon]); go_at_call 25; ((with_reducible refine (c1 _ (hqa.call hw.ins.bel)).mono ?_)); rintro e w'' ⟨⟨v, rfl, hv⟩, hb⟩; exact ⟨v, rfl, ⟨hv, fun h => by cases h⟩, hb⟩))
  (repeat (first | ((with_reducible refine flow_float (v := ?_) ?_ ?_ ?_); rotate_left 1; (focus (with_reducible rfl)); (focus (intro u w1 hw hd w2; (try simp only [depH] at hd); (try simp only [ext] at hd); (try simp only [Nat.reduceAdd] at hd); (try simp only [Nat.reduceEqDiff] at hd); (try simp only [reduceIte] at hd); (try simp only [if_true] at hd); (try simp only [if_false] at hd); (try simp only [and_true] at hd); (try simp only [true_and] at hd); go_simp; exact rfl))) | ((with_reducible refine flow_pure0 (v := ?_) ?_ ?_ ?_ ?_); rotate_left 1; (focus (with_reducible rfl)); (focus rfl); (focus (intro u w1 hw hd; (try simp only [depH] at hd); (try simp only [ext] at hd); (try simp only [Nat.reduceAdd] at hd); (try simp only [Nat.reduceEqDiff] at hd); (try simp only [reduceIte] at hd); (try simp only [if_true] at hd); (try simp only [if_false] at hd); (try simp only [and_true] at hd); (try simp only [true_and] at hd); have hc' := hw.cell; go_simp; exact rfl))) | ((with_reducible refine flow_skipg (j := ?_) (b := ?_) ?_ ?_ ?_); rotate_left 2; (focus (with_reducible rfl)); (focus (intro u w1 hw hd; (try simp only [depH] at hd); (try simp only [ext] at hd); (try simp only [Nat.reduceAdd] at hd); (try simp only [Nat.reduceEqDiff] at hd); (try simp only [reduceIte] at hd); (try simp only [if_true] at hd); (try simp only [if_false] at hd); (try simp only [and_true] at hd); (try simp only [true_and] at hd); simp [yielded, hd]; done))) | ((with_reducible refine flow_pureg (v := ?_) (j := ?_) (b := ?_) ?_ ?_ ?_ ?_); rotate_left 3; (focus (with_reducible rfl)); (focus (intro u w1 hw hd; (try simp only [depH] at hd); (try simp only [ext] at hd); (try simp only [Nat.reduceAdd] at hd); (try simp only [Nat.reduceEqDiff] at hd); (try simp only [reduceIte] at hd); (try simp only [if_true] at hd); (try simp only [if_false] at hd); (try simp only [and_true] at hd); (try simp only [true_and] at hd); simp [yielded, hd]; done)); (focus (intro u w1 hw hd; (try simp only [depH] at hd); (try simp only [ext] at hd); (try simp only [Nat.reduceAdd] at hd); (try simp only [Nat.reduceEqDiff] at hd); (try simp only [reduceIte] at hd); (try simp only [if_true] at hd); (try simp only [if_false] at hd); (try simp only [and_true] at hd); (try simp only [true_and] at hd); have hc' := hw.cell; go_simp; exact rfl))) | ((with_reducible refine flow_alloc (t := ?_) (zs := ?_) ?_ ?_ ?_ ?_); rotate_left 2; (focus (with_reducible rfl)); (focus rfl); (focus (intro u w1; go_simp; exact rfl)))))
  (with_reducible refine flow_rel (Vi := fun x W => MatAt W x r' c' ys) false ?_ ?_ ?_ ?_ ?_ ?_); (focus rfl); (focus rfl); (focus exact stable_mat _ _ _); (focus exact placed_false _); (focus (intro u w1 hw hd; (try simp only [depH] at hd); (try simp only [ext] at hd); (try simp only [Nat.reduceAdd] at hd); (try simp only [Nat.reduceEqDiff] at hd); (try simp only [reduceIte] at hd); (try simp only [if_true] at hd); (try simp only [if_false] at hd); (try simp only [and_true] at hd); (try simp only [true_and] at hd); have hc' := hw.cell; go_simp; (try simp only [okUpon]); go_at_call 25; ((with_reducible refine (c2 _ (hqb.call hw.ins.bel)).mono ?_)); rintro e w'' ⟨⟨v, rfl, hv⟩, hb⟩; exact ⟨v, rfl, ⟨hv, fun h => by cases h⟩, hb⟩))
  (repeat (first | ((with_reducible refine flow_float (v := ?_) ?_ ?_ ?_); rotate_left 1; (focus (with_reducible rfl)); (focus (intro u w1 hw hd w2; (try simp only [depH] at hd); (try simp only [ext] at hd); (try simp only [Nat.reduceAdd] at hd); (try simp only [Nat.reduceEqDiff] at hd); (try simp only [reduceIte] at hd); (try simp only [if_true] at hd); (try simp only [if_false] at hd); (try simp only [and_true] at hd); (try simp only [true_and] at hd); go_simp; exact rfl))) | ((with_reducible refine flow_pure0 (v := ?_) ?_ ?_ ?_ ?_); rotate_left 1; (focus (with_reducible rfl)); (focus rfl); (focus (intro u w1 hw hd; (try simp only [depH] at hd); (try simp only [ext] at hd); (try simp only [Nat.reduceAdd] at hd); (try simp only [Nat.reduceEqDiff] at hd); (try simp only [reduceIte] at hd); (try simp only [if_true] at hd); (try simp only [if_false] at hd); (try simp only [and_true] at hd); (try simp only [true_and] at hd); have hc' := hw.cell; go_simp; exact rfl))) | ((with_reducible refine flow_skipg (j := ?_) (b := ?_) ?_ ?_ ?_); rotate_left 2; (focus (with_reducible rfl)); (focus (intro u w1 hw hd; (try simp only [depH] at hd); (try simp only [ext] at hd); (try simp only [Nat.reduceAdd] at hd); (try simp only [Nat.reduceEqDiff] at hd); (try simp only [reduceIte] at hd); (try simp only [if_true] at hd); (try simp only [if_false] at hd); (try simp only [and_true] at hd); (try simp only [true_and] at hd); simp [yielded, hd]; done))) | ((with_reducible refine flow_pureg (v := ?_) (j := ?_) (b := ?_) ?_ ?_ ?_ ?_); rotate_left 3; (focus (with_reducible rfl)); (focus (intro u w1 hw hd; (try simp only [depH] at hd); (try simp only [ext] at hd); (try simp only [Nat.reduceAdd] at hd); (try simp only [Nat.reduceEqDiff] at hd); (try simp only [reduceIte] at hd); (try simp only [if_true] at hd); (try simp only [if_false] at hd); (try simp only [and_true] at hd); (try simp only [true_and] at hd); simp [yielded, hd]; done)); (focus (intro u w1 hw hd; (try simp only [depH] at hd); (try simp only [ext] at hd); (try simp only [Nat.reduceAdd] at hd); (try simp only [Nat.reduceEqDiff] at hd); (try simp only [reduceIte] at hd); (try simp only [if_true] at hd); (try simp only [if_false] at hd); (try simp only [and_true] at hd); (try simp only [true_and] at hd); have hc' := hw.cell; go_simp; exact rfl))) | ((with_reducible refine flow_alloc (t := ?_) (zs := ?_) ?_ ?_ ?_ ?_); rotate_left 2; (focus (with_reducible rfl)); (focus rfl); (focus (intro u w1; go_simp; exact rfl)))))
  (try clear hc hf h); intro u w' h ha hdi; replace h := h.ins; (try simp only [World.size_alloc] at h); (try dsimp only at ha); (repeat rw [World.size_alloc] at ha); (try simp only [allH] at ha); (try simp only [ext] at ha); (try simp only [Nat.reduceAdd] at ha); (try simp only [Nat.reduceEqDiff] at ha); (try simp only [reduceIte] at ha); (try simp only [if_true] at ha); (try simp only [if_false] at ha); (try simp only [and_true] at ha); (try simp only [true_and] at ha); have hc := h.cell; have hf := h.frozen
  obtain ⟨⟨⟨⟨⟨ha, hM1⟩, ha2⟩, hM2⟩, S1, hu4, hS1, bS1⟩, S2, hu5, hS2, bS2⟩ := ha
  obtain ⟨ax, kx, hu1⟩ := hM1.shape
  obtain ⟨ay, ky, hu3⟩ := hM2.shape
  rw [hu1] at hM1
  rw [hu3] at hM2
  have hne' := hdi 4 5 (by decide) (by decide) (by decide) rfl rfl _ (by rw [hu4]; rfl); rw [hu5] at hne'; have hne : ¬ S2 = S1 := fun h => hne' (congrArg some h); have hne_ : ¬ S1 = S2 := fun h => hne h.symm; clear hne'
  (try obtain ha := ha); (try dsimp only);  simp only [ha, ha2, hu1, hu3, hu4, hu5]; clear ha hdi ha2 hu1 hu3 hu4 hu5
  have hXS1 : X + 1 + 1 < S1 := by have := bq.lt; omega
  have hXS2 : X + 1 + 1 < S2 := by have := bq.lt; omega
  have hin1 := hin.call h.bel
  have bq1 := bq.call h.bel
  have p0 := bS1.c0
  have p1 := bS1.c1
  have p2 := bS1.c2
  have p3 := bS1.frozen 0
  have p4 := bS1.frozen 1
  have p5 := bS1.frozen 2
  have p6 := bS1.lt
  have q0 := bS2.c0
  have q1 := bS2.c1
  have q2 := bS2.c2
  have q3 := bS2.frozen 0
  have q4 := bS2.frozen 1
  have q5 := bS2.frozen 2
  have q6 := bS2.lt
  obtain ⟨L, hL⟩ : ∃ L, L = xs.length := ⟨_, rfl⟩
  obtain ⟨L', hL'⟩ : ∃ L, L = ys.length := ⟨_, rfl⟩
  rw [← hL] at hM1
  rw [← hL'] at hM2
  rw [← hL, ← hL']
  have k1 := ((bS1.set 0 (.int .i64 r)).set 1 (.int .i64 c)).set 2 (.slice ax L kx)
  have k2 := (((bS2.other (a := ⟨S1, 0, none⟩) hne_ (.int .i64 r)).other (a := ⟨S1, 1, none⟩) hne_ (.int .i64 c)).other (a := ⟨S1, 2, none⟩) hne_ (.slice ax L kx))
  have K1 := Lib.hid (((k1.other (a := ⟨S2, 0, none⟩) hne (.int .i64 r')).other (a := ⟨S2, 1, none⟩) hne (.int .i64 c')).other (a := ⟨S2, 2, none⟩) hne (.slice ay L' ky))
  have K2 := Lib.hid (((k2.set 0 (.int .i64 r')).set 1 (.int .i64 c')).set 2 (.slice ay L' ky))
  have K3 := Lib.hid ((((((bq1.other (a := ⟨S1, 0, none⟩) (by simp; omega) (.int .i64 r)).other (a := ⟨S1, 1, none⟩) (by simp; omega) (.int .i64 c)).other (a := ⟨S1, 2, none⟩) (by simp; omega) (.slice ax L kx)).other (a := ⟨S2, 0, none⟩) (by simp; omega) (.int .i64 r')).other (a := ⟨S2, 1, none⟩) (by simp; omega) (.int .i64 c')).other (a := ⟨S2, 2, none⟩) (by simp; omega) (.slice ay L' ky))
  have K4 := Lib.hid ((((((hin1.setCell (p := ⟨S1, 0, none⟩) (by simp; omega) (.int .i64 r)).setCell (p := ⟨S1, 1, none⟩) (by simp; omega) (.int .i64 c)).setCell (p := ⟨S1, 2, none⟩) (by simp; omega) (.slice ax L kx)).setCell (p := ⟨S2, 0, none⟩) (by simp; omega) (.int .i64 r')).setCell (p := ⟨S2, 1, none⟩) (by simp; omega) (.int .i64 c')).setCell (p := ⟨S2, 2, none⟩) (by simp; omega) (.slice ay L' ky))
  have K5 := Lib.hid ((hM1.put3 (p' := r) (q' := c) (ao' := ax) (n' := L) (k' := kx) bS1).put3 (p' := r') (q' := c') (ao' := ay) (n' := L') (k' := ky) k2)
  have K6 := Lib.hid ((hM2.put3 (p' := r) (q' := c) (ao' := ax) (n' := L) (k' := kx) bS1).put3 (p' := r') (q' := c') (ao' := ay) (n' := L') (k' := ky) k2)
  clear k1 k2 hin1 bq1 hM1 hM2 bS1 bS2 hc hf h hin bq ba bb a0 a1 a2 b0 b1 b2 hal hbl hqa hqb hS1 hS2 hL hL'
  go_upto_region 4 with fail
  have g1 := K1.out
  have g2 := K2.out
  have g3 := K3.out
  have hin := K4.out
  have m1 := K5.out
  have m2 := K6.out
  clear K1 K2 K3 K4 K5 K6 p0 p1 p2 p3 p4 p5 p6 q0 q1 q2 q3 q4 q5 q6
  generalize (((((w'.setCell ⟨S1, 0, none⟩ (.int .i64 r)).setCell ⟨S1, 1, none⟩ (.int .i64 c)).setCell ⟨S1, 2, none⟩ (.slice ax L kx)).setCell ⟨S2, 0, none⟩ (.int .i64 r')).setCell ⟨S2, 1, none⟩ (.int .i64 c')).setCell ⟨S2, 2, none⟩ (.slice ay L' ky) = W2 at *
  simp only [List.set] at g1 g2
  have x0 := g1.c0
  have x1 := g1.c1
  have x2 := g1.c2
  have xl := g1.lt
  have y0 := g2.c0
  have y1 := g2.c1
  have y2 := g2.c2
  have y3 := g2.frozen 0
  have y4 := g2.frozen 1
  have y5 := g2.frozen 2
  have yl := g2.lt
  have eL := m1.len
  have hL0 : (0 : Int) < L := by rw [eL]; have := HNO.out; omega
  have HEL := Lib.hid eL
  clear eL
  obtain ⟨ab, ao, rfl⟩ : ∃ b o, ax = some ⟨b, o, none⟩ := by
    obtain ⟨x, h1, h2, h3⟩ := m1
    have hL := HEL.out
    have hn := HNO.out
    obtain ⟨b, o, k, _, _, _, _, _, rfl, _⟩ := h3.at (i := 0) (by omega)
    simp only [Value.agg.injEq] at h1
    have h4 := congrArg Array.toList h1
    simp only [List.cons.injEq, Value.slice.injEq, and_true, true_and] at h4
    exact ⟨b, o, h4.1⟩
  have hvx : VecAt W2 (.slice (some ⟨ab, ao, none⟩) L kx) xs := by
    obtain ⟨x, h1, h2, h3⟩ := m1
    simp only [Value.agg.injEq] at h1
    have h4 := congrArg Array.toList h1
    simp only [List.cons.injEq, and_true, true_and] at h4
    rw [h4]; exact h3
  have HVX := Lib.hid hvx
  have hab : ab < W2.heap.size := by
    have hn := HNO.out
    have hL := HEL.out
    have hl : xs.length = r * c := by obtain ⟨_, _, h, _⟩ := m1; exact h
    obtain ⟨b, o, k, _, _, _, _, _, e, h, _⟩ := hvx.at (i := 0) (by omega)
    simp only [Value.slice.injEq, Option.some.injEq, Addr.mk.injEq, and_true] at e
    omega
  have hrc : r * c ≤ 36 := Nat.mul_le_mul HB.out.1 HB.out.2.1
  have hL36 : L ≤ 36 := by rw [HEL.out]; exact hrc
  obtain ⟨i0, hi0, hi1, hi2, hi3⟩ := info_parts info_frac
  have HI := Lib.hid (And.intro hi0 (And.intro hi1 (And.intro hi2 hi3)))
  have hm1 := m1
  clear hvx hi0 hi1 hi2 hi3
  have HLX : Hid (xs.length = L) := Lib.hid (by obtain ⟨_, _, h, _⟩ := m1; rw [h, HEL.out])
  go_upto_region 5 with fail
  have h := In.self W2
  have hc := h.cell
  refine wp_region_flow 9 (by kernel_rfl) (by kernel_rfl) (fun _ _ d _ _ h => by cases d <;> exact h) ?_; simp only [List.take_succ_cons, List.take_zero, List.drop_succ_cons, List.drop_zero]; simp only [putAll, Act.put, List.setIfInBounds_toArray, List.set]; (try simp only [Nat.reduceAdd]); (try simp only [Nat.zero_add]); (repeat (first | ((with_reducible refine flow_float (v := ?_) ?_ ?_ ?_); rotate_left 1; (focus (with_reducible rfl)); (focus (intro u w1 hw hd w2; (try simp only [depH] at hd); (try simp only [ext] at hd); (try simp only [Nat.reduceAdd] at hd); (try simp only [Nat.reduceEqDiff] at hd); (try simp only [reduceIte] at hd); (try simp only [if_true] at hd); (try simp only [if_false] at hd); (try simp only [and_true] at hd); (try simp only [true_and] at hd); go_simp; exact rfl))) | ((with_reducible refine flow_pure0 (v := ?_) ?_ ?_ ?_ ?_); rotate_left 1; (focus (with_reducible rfl)); (focus rfl); (focus (intro u w1 hw hd; (try simp only [depH] at hd); (try simp only [ext] at hd); (try simp only [Nat.reduceAdd] at hd); (try simp only [Nat.reduceEqDiff] at hd); (try simp only [reduceIte] at hd); (try simp only [if_true] at hd); (try simp only [if_false] at hd); (try simp only [and_true] at hd); (try simp only [true_and] at hd); have hc' := hw.cell; go_simp; exact rfl))) | ((with_reducible refine flow_skipg (j := ?_) (b := ?_) ?_ ?_ ?_); rotate_left 2; (focus (with_reducible rfl)); (focus (intro u w1 hw hd; (try simp only [depH] at hd); (try simp only [ext] at hd); (try simp only [Nat.reduceAdd] at hd); (try simp only [Nat.reduceEqDiff] at hd); (try simp only [reduceIte] at hd); (try simp only [if_true] at hd); (try simp only [if_false] at hd); (try simp only [and_true] at hd); (try simp only [true_and] at hd); simp [yielded, hd]; done))) | ((with_reducible refine flow_pureg (v := ?_) (j := ?_) (b := ?_) ?_ ?_ ?_ ?_); rotate_left 3; (focus (with_reducible rfl)); (focus (intro u w1 hw hd; (try simp only [depH] at hd); (try simp only [ext] at hd); (try simp only [Nat.reduceAdd] at hd); (try simp only [Nat.reduceEqDiff] at hd); (try simp only [reduceIte] at hd); (try simp only [if_true] at hd); (try simp only [if_false] at hd); (try simp only [and_true] at hd); (try simp only [true_and] at hd); simp [yielded, hd]; done)); (focus (intro u w1 hw hd; (try simp only [depH] at hd); (try simp only [ext] at hd); (try simp only [Nat.reduceAdd] at hd); (try simp only [Nat.reduceEqDiff] at hd); (try simp only [reduceIte] at hd); (try simp only [if_true] at hd); (try simp only [if_false] at hd); (try simp only [and_true] at hd); (try simp only [true_and] at hd); have hc' := hw.cell; go_simp; exact rfl))) | ((with_reducible refine flow_alloc (t := ?_) (zs := ?_) ?_ ?_ ?_ ?_); rotate_left 2; (focus (with_reducible rfl)); (focus rfl); (focus (intro u w1; go_simp; exact rfl)))))
  (with_reducible refine flow_slice (t := 56) (zs := #[]) (n := 0) ?_ ?_ ?_ ?_); (focus (with_reducible rfl)); (focus rfl); (focus (intro u w1 hw hd; (try simp only [depH] at hd); (try simp only [ext] at hd); (try simp only [Nat.reduceAdd] at hd); (try simp only [Nat.reduceEqDiff] at hd); (try simp only [reduceIte] at hd); (try simp only [if_true] at hd); (try simp only [if_false] at hd); (try simp only [and_true] at hd); (try simp only [true_and] at hd); (try go_simp); (try exact rfl)))
  (repeat (first | ((with_reducible refine flow_float (v := ?_) ?_ ?_ ?_); rotate_left 1; (focus (with_reducible rfl)); (focus (intro u w1 hw hd w2; (try simp only [depH] at hd); (try simp only [ext] at hd); (try simp only [Nat.reduceAdd] at hd); (try simp only [Nat.reduceEqDiff] at hd); (try simp only [reduceIte] at hd); (try simp only [if_true] at hd); (try simp only [if_false] at hd); (try simp only [and_true] at hd); (try simp only [true_and] at hd); go_simp; exact rfl))) | ((with_reducible refine flow_pure0 (v := ?_) ?_ ?_ ?_ ?_); rotate_left 1; (focus (with_reducible rfl)); (focus rfl); (focus (intro u w1 hw hd; (try simp only [depH] at hd); (try simp only [ext] at hd); (try simp only [Nat.reduceAdd] at hd); (try simp only [Nat.reduceEqDiff] at hd); (try simp only [reduceIte] at hd); (try simp only [if_true] at hd); (try simp only [if_false] at hd); (try simp only [and_true] at hd); (try simp only [true_and] at hd); have hc' := hw.cell; go_simp; exact rfl))) | ((with_reducible refine flow_skipg (j := ?_) (b := ?_) ?_ ?_ ?_); rotate_left 2; (focus (with_reducible rfl)); (focus (intro u w1 hw hd; (try simp only [depH] at hd); (try simp only [ext] at hd); (try simp only [Nat.reduceAdd] at hd); (try simp only [Nat.reduceEqDiff] at hd); (try simp only [reduceIte] at hd); (try simp only [if_true] at hd); (try simp only [if_false] at hd); (try simp only [and_true] at hd); (try simp only [true_and] at hd); simp [yielded, hd]; done))) | ((with_reducible refine flow_pureg (v := ?_) (j := ?_) (b := ?_) ?_ ?_ ?_ ?_); rotate_left 3; (focus (with_reducible rfl)); (focus (intro u w1 hw hd; (try simp only [depH] at hd); (try simp only [ext] at hd); (try simp only [Nat.reduceAdd] at hd); (try simp only [Nat.reduceEqDiff] at hd); (try simp only [reduceIte] at hd); (try simp only [if_true] at hd); (try simp only [if_false] at hd); (try simp only [and_true] at hd); (try simp only [true_and] at hd); simp [yielded, hd]; done)); (focus (intro u w1 hw hd; (try simp only [depH] at hd); (try simp only [ext] at hd); (try simp only [Nat.reduceAdd] at hd); (try simp only [Nat.reduceEqDiff] at hd); (try simp only [reduceIte] at hd); (try simp only [if_true] at hd); (try simp only [if_false] at hd); (try simp only [and_true] at hd); (try simp only [true_and] at hd); have hc' := hw.cell; go_simp; exact rfl))) | ((with_reducible refine flow_alloc (t := ?_) (zs := ?_) ?_ ?_ ?_ ?_); rotate_left 2; (focus (with_reducible rfl)); (focus rfl); (focus (intro u w1; go_simp; exact rfl)))))
  (with_reducible refine flow_rel (Vi := NewV W2.heap.size L xs) false ?_ ?_ ?_ ?_ ?_ ?_)
  case refine_1 => rfl
  case refine_2 => rfl
  case refine_3 => exact stable_newV _ _ _
  case refine_4 => exact placed_false _
  case refine_5 =>
    intro u w1 hw hd
    (try simp only [depH] at hd); (try simp only [ext] at hd); (try simp only [Nat.reduceAdd] at hd); (try simp only [Nat.reduceEqDiff] at hd); (try simp only [reduceIte] at hd); (try simp only [if_true] at hd); (try simp only [if_false] at hd); (try simp only [and_true] at hd); (try simp only [true_and] at hd)
    obtain ⟨⟨E, e1, e2, e3⟩, e4⟩ := hd
    have hvx1 := HVX.out.call hw.ins.bel
    have hap := fun ty => run_append_arg_grows (P := Tryz.prog) (w := w1) 76 ty 56 i0 _ 5 56 Tryz.underlying76 HI.out.1 HI.out.2.1 HI.out.2.2.1 HI.out.2.2.2 rfl (by decide) ⟨E, 0, none⟩ 0 0 [] rfl (fun j u h => by simp at h) ⟨ab, ao, none⟩ L kx (fcl xs) (by rw [fcl_length, HLX.out]) (VecAt.all hvx1) (by omega) (by simp only [maxLen]; omega) (by omega)
    obtain ⟨v', w2, hrun, hown, hgr⟩ := hap 76
    simp only [Nat.zero_add, List.nil_append] at hown
    obtain ⟨g, k, rfl, hg1, hg2⟩ := VRow.own hown (by omega)
    simp [execOp, resolve, invoke, builtin, e1, e4, Act.eval, hrun, Result.andThen]
    simp only [okUpon]
    exact ⟨⟨⟨g, k, rfl, Nat.le_trans hw.size hg1, hg2⟩, fun h => by cases h⟩, hgr.os, hgr.tape, hgr.output, hgr.size, fun k hk => hgr.block k hk (by simp)⟩
  (with_reducible refine flow_rel (Vi := NewR W2.heap.size r c L xs) false ?_ ?_ ?_ ?_ ?_ ?_)
  case refine_1 => rfl
  case refine_2 => rfl
  case refine_3 => exact stable_newR _ _ _ _ _
  case refine_4 => exact placed_false _
  case refine_5 =>
    intro u w1 hw hd
    (try simp only [depH] at hd); (try simp only [ext] at hd); (try simp only [Nat.reduceAdd] at hd); (try simp only [Nat.reduceEqDiff] at hd); (try simp only [reduceIte] at hd); (try simp only [if_true] at hd); (try simp only [if_false] at hd); (try simp only [and_true] at hd); (try simp only [true_and] at hd)
    obtain ⟨e1, e2, g, k, e3, e4, e5⟩ := hd
    go_simp
    exact ⟨⟨⟨g, k, rfl, e4, e5⟩, fun h => by cases h⟩, St.refl _⟩
  (try clear hc hf h); intro u w' h ha hdi; replace h := h.ins; (try simp only [World.size_alloc] at h); (try dsimp only at ha); (repeat rw [World.size_alloc] at ha); (try simp only [allH] at ha); (try simp only [ext] at ha); (try simp only [Nat.reduceAdd] at ha); (try simp only [Nat.reduceEqDiff] at ha); (try simp only [reduceIte] at ha); (try simp only [if_true] at ha); (try simp only [if_false] at ha); (try simp only [and_true] at ha); (try simp only [true_and] at ha); have hc := h.cell; have hf := h.frozen
  obtain ⟨⟨⟨⟨⟨ha, E, hu4, _, _⟩, ha5⟩, ha6⟩, g7, k7, hu7, _, _⟩, g, k, hu8, hg, hv⟩ := ha
  (try obtain ha := ha); (try dsimp only);  simp only [ha, ha5, ha6, hu4, hu7, hu8]; clear ha hdi ha5 ha6 hu4 hu7 hu8
  have hgS1 : S1 ≠ g := by omega
  have hgS2 : S2 ≠ g := by omega
  have hin1 := hin.call h.bel
  have t1 := g1.call h.bel
  have t2 := g2.call h.bel
  have t3 := g3.call h.bel
  have n1 := hm1.call h.bel
  have y0 := t2.c0
  have y1 := t2.c1
  have y2 := t2.c2
  have y3 := t2.frozen 0
  have y4 := t2.frozen 1
  have y5 := t2.frozen 2
  have yl := t2.lt
  have K1 := Lib.hid (((t1.other (a := ⟨S2, 0, none⟩) hne (.int .i64 r)).other (a := ⟨S2, 1, none⟩) hne (.int .i64 c)).other (a := ⟨S2, 2, none⟩) hne (.slice (some ⟨g, 0, none⟩) L k))
  have K2 := Lib.hid (((t2.set 0 (.int .i64 r)).set 1 (.int .i64 c)).set 2 (.slice (some ⟨g, 0, none⟩) L k))
  have K3 := Lib.hid (((t3.other (a := ⟨S2, 0, none⟩) (by simp; omega) (.int .i64 r)).other (a := ⟨S2, 1, none⟩) (by simp; omega) (.int .i64 c)).other (a := ⟨S2, 2, none⟩) (by simp; omega) (.slice (some ⟨g, 0, none⟩) L k))
  have K4 := Lib.hid (((hin1.setCell (p := ⟨S2, 0, none⟩) (by simp; omega) (.int .i64 r)).setCell (p := ⟨S2, 1, none⟩) (by simp; omega) (.int .i64 c)).setCell (p := ⟨S2, 2, none⟩) (by simp; omega) (.slice (some ⟨g, 0, none⟩) L k))
  have K5 := Lib.hid (n1.put3 (p' := r) (q' := c) (ao' := some ⟨g, 0, none⟩) (n' := L) (k' := k) t2)
  have K6 := Lib.hid (((hv.other (a := ⟨S2, 0, none⟩) hgS2 (.int .i64 r)).other (a := ⟨S2, 1, none⟩) hgS2 (.int .i64 c)).other (a := ⟨S2, 2, none⟩) hgS2 (.slice (some ⟨g, 0, none⟩) L k))
  have bqlt := t3.lt
  replace bqlt : X + 1 + 1 < W2.heap.size := by have := g3.lt; exact this
  have HN2 := Lib.hid (And.intro hgS1 hgS2)
  clear hin1 t1 t2 t3 n1 hv hc hf h hin g1 g2 g3 m1 m2 hm1 x0 x1 x2 xl hgS1 hgS2
  go_upto_region 6 with fail
  have g1 := K1.out
  have g2 := K2.out
  have g3 := K3.out
  have hin := K4.out
  have m1 := K5.out
  have hv := K6.out
  clear K1 K2 K3 K4 K5 K6 y0 y1 y2 y3 y4 y5 yl
  generalize ((w'.setCell ⟨S2, 0, none⟩ (.int .i64 r)).setCell ⟨S2, 1, none⟩ (.int .i64 c)).setCell ⟨S2, 2, none⟩ (.slice (some ⟨g, 0, none⟩) L k) = W3 at *
  simp only [List.set] at g2
  have y2 := g2.c2
  have yl := g2.lt
  have z0 := g3.c0
  have z1 := g3.c1
  have zl := g3.lt
  have hLn : ¬ L = 0 := by omega
  have hwa : IntKind.i64.wrap (at0 : Int) = (at0 : Int) := IntWalk.i64_in _ (by omega)
  have cq := qOf_any vn vd hv0 hv1 hv2 hv3
  obtain ⟨q, hq⟩ : ∃ q, q = qOf vn vd := ⟨_, rfl⟩
  rw [← hq] at cq
  have HQ := Lib.hid hq
  clear hq
  have h := In.self W3
  have hc := h.cell
  refine wp_region_flow 10 (by kernel_rfl) (by kernel_rfl) (fun _ _ d _ _ h => by cases d <;> exact h) ?_; simp only [List.take_succ_cons, List.take_zero, List.drop_succ_cons, List.drop_zero]; simp only [putAll, Act.put, List.setIfInBounds_toArray, List.set]; (try simp only [Nat.reduceAdd]); (try simp only [Nat.zero_add]); (repeat (first | ((with_reducible refine flow_float (v := ?_) ?_ ?_ ?_); rotate_left 1; (focus (with_reducible rfl)); (focus (intro u w1 hw hd w2; (try simp only [depH] at hd); (try simp only [ext] at hd); (try simp only [Nat.reduceAdd] at hd); (try simp only [Nat.reduceEqDiff] at hd); (try simp only [reduceIte] at hd); (try simp only [if_true] at hd); (try simp only [if_false] at hd); (try simp only [and_true] at hd); (try simp only [true_and] at hd); go_simp; exact rfl))) | ((with_reducible refine flow_pure0 (v := ?_) ?_ ?_ ?_ ?_); rotate_left 1; (focus (with_reducible rfl)); (focus rfl); (focus (intro u w1 hw hd; (try simp only [depH] at hd); (try simp only [ext] at hd); (try simp only [Nat.reduceAdd] at hd); (try simp only [Nat.reduceEqDiff] at hd); (try simp only [reduceIte] at hd); (try simp only [if_true] at hd); (try simp only [if_false] at hd); (try simp only [and_true] at hd); (try simp only [true_and] at hd); have hc' := hw.cell; go_simp; exact rfl))) | ((with_reducible refine flow_skipg (j := ?_) (b := ?_) ?_ ?_ ?_); rotate_left 2; (focus (with_reducible rfl)); (focus (intro u w1 hw hd; (try simp only [depH] at hd); (try simp only [ext] at hd); (try simp only [Nat.reduceAdd] at hd); (try simp only [Nat.reduceEqDiff] at hd); (try simp only [reduceIte] at hd); (try simp only [if_true] at hd); (try simp only [if_false] at hd); (try simp only [and_true] at hd); (try simp only [true_and] at hd); simp [yielded, hd]; done))) | ((with_reducible refine flow_pureg (v := ?_) (j := ?_) (b := ?_) ?_ ?_ ?_ ?_); rotate_left 3; (focus (with_reducible rfl)); (focus (intro u w1 hw hd; (try simp only [depH] at hd); (try simp only [ext] at hd); (try simp only [Nat.reduceAdd] at hd); (try simp only [Nat.reduceEqDiff] at hd); (try simp only [reduceIte] at hd); (try simp only [if_true] at hd); (try simp only [if_false] at hd); (try simp only [and_true] at hd); (try simp only [true_and] at hd); simp [yielded, hd]; done)); (focus (intro u w1 hw hd; (try simp only [depH] at hd); (try simp only [ext] at hd); (try simp only [Nat.reduceAdd] at hd); (try simp only [Nat.reduceEqDiff] at hd); (try simp only [reduceIte] at hd); (try simp only [if_true] at hd); (try simp only [if_false] at hd); (try simp only [and_true] at hd); (try simp only [true_and] at hd); have hc' := hw.cell; go_simp; exact rfl))) | ((with_reducible refine flow_alloc (t := ?_) (zs := ?_) ?_ ?_ ?_ ?_); rotate_left 2; (focus (with_reducible rfl)); (focus rfl); (focus (intro u w1; go_simp; exact rfl))) | ((with_reducible refine flow_pure0 (v := ?_) ?_ ?_ ?_ ?_); rotate_left 1; (focus (with_reducible rfl)); (focus rfl); (focus (intro u w1 hw hd; (try simp only [depH] at hd); (try simp only [ext] at hd); (try simp only [Nat.reduceAdd] at hd); (try simp only [Nat.reduceEqDiff] at hd); (try simp only [reduceIte] at hd); (try simp only [if_true] at hd); (try simp only [if_false] at hd); (try simp only [and_true] at hd); (try simp only [true_and] at hd); have hc' := hw.cell; go_simp; go_at_call 16; ((with_reducible refine (cq _).mono ?_)); rintro e w'' ⟨rfl, hb⟩; refine ⟨?_, hb⟩; exact rfl))) | ((with_reducible refine flow_pureg (v := ?_) (j := ?_) (b := ?_) ?_ ?_ ?_ ?_); rotate_left 3; (focus (with_reducible rfl)); (focus (intro u w1 hw hd; (try simp only [depH] at hd); (try simp only [ext] at hd); (try simp only [Nat.reduceAdd] at hd); (try simp only [Nat.reduceEqDiff] at hd); (try simp only [reduceIte] at hd); (try simp only [if_true] at hd); (try simp only [if_false] at hd); (try simp only [and_true] at hd); (try simp only [true_and] at hd); simp [yielded, hd]; done)); (focus (intro u w1 hw hd; (try simp only [depH] at hd); (try simp only [ext] at hd); (try simp only [Nat.reduceAdd] at hd); (try simp only [Nat.reduceEqDiff] at hd); (try simp only [reduceIte] at hd); (try simp only [if_true] at hd); (try simp only [if_false] at hd); (try simp only [and_true] at hd); (try simp only [true_and] at hd); have hc' := hw.cell; go_simp; go_at_call 16; ((with_reducible refine (cq _).mono ?_)); rintro e w'' ⟨rfl, hb⟩; refine ⟨?_, hb⟩; exact rfl)))))
  (try clear hc hf h); intro u w' h ha hdi; replace h := h.ins; (try simp only [World.size_alloc] at h); (try dsimp only at ha); (repeat rw [World.size_alloc] at ha); (try simp only [allH] at ha); (try simp only [ext] at ha); (try simp only [Nat.reduceAdd] at ha); (try simp only [Nat.reduceEqDiff] at ha); (try simp only [reduceIte] at ha); (try simp only [if_true] at ha); (try simp only [if_false] at ha); (try simp only [and_true] at ha); (try simp only [true_and] at ha); have hc := h.cell; have hf := h.frozen
  obtain ⟨d, hd⟩ : ∃ d, d = at0 % L := ⟨_, rfl⟩
  have hpm : (at0 : Int).tmod L = (d : Int) := by rw [hd]; rfl
  have hdL : d < L := by rw [hd]; exact Nat.mod_lt _ (by omega)
  (try obtain ha := ha); (try dsimp only);  simp only [ha, hpm]; clear ha hdi hpm
  have hdI : (d : Int) < L := by omega
  have hd0 : (0 : Int) ≤ d := by omega
  have t1 := g1.call h.bel
  have t2 := g2.call h.bel
  have n1 := m1.call h.bel
  have n2 := hv.call h.bel
  have hin1 := hin.call h.bel
  have t3 := g3.call h.bel
  obtain ⟨A1, A2, A3, A4, A5, hA, hA2⟩ : ∃ A1 A2 A3 A4 A5, fracV q = .agg #[.int .u64 A1, .string A2, .bool A3, .int .u64 A4, .string A5] ∧ fcs q = [.int .u64 A1, .string A2, .bool A3, .int .u64 A4, .string A5] := ⟨_, _, _, _, _, rfl, rfl⟩
  have hdx : d < xs.length := by rw [HLX.out]; exact hdL
  obtain ⟨_, _, _, _, _, _, c0, c1, c2, c3, c4, f0, f1, f2, f3, f4⟩ := n2.cells hdx
  have K6 := Lib.hid (n2.setA d q hdx hA2)
  have hgX : X ≤ g := by have := bqlt; omega
  have hgQ : g ≠ X + 1 + 1 := by have := bqlt; omega
  have hS1g : g ≠ S1 := HN2.out.1.symm
  have hS2g : g ≠ S2 := HN2.out.2.symm
  have hgab : g ≠ ab := by omega
  have K1 := Lib.hid (((((t1.other (a := ⟨g, d * 5, none⟩) hS1g (.int .u64 A1)).other (a := ⟨g, d * 5 + 1, none⟩) hS1g (.string A2)).other (a := ⟨g, d * 5 + 2, none⟩) hS1g (.bool A3)).other (a := ⟨g, d * 5 + 3, none⟩) hS1g (.int .u64 A4)).other (a := ⟨g, d * 5 + 4, none⟩) hS1g (.string A5))
  have K2 := Lib.hid (((((t2.other (a := ⟨g, d * 5, none⟩) hS2g (.int .u64 A1)).other (a := ⟨g, d * 5 + 1, none⟩) hS2g (.string A2)).other (a := ⟨g, d * 5 + 2, none⟩) hS2g (.bool A3)).other (a := ⟨g, d * 5 + 3, none⟩) hS2g (.int .u64 A4)).other (a := ⟨g, d * 5 + 4, none⟩) hS2g (.string A5))
  have K3 := Lib.hid (((((t3.other (a := ⟨g, d * 5, none⟩) hgQ (.int .u64 A1)).other (a := ⟨g, d * 5 + 1, none⟩) hgQ (.string A2)).other (a := ⟨g, d * 5 + 2, none⟩) hgQ (.bool A3)).other (a := ⟨g, d * 5 + 3, none⟩) hgQ (.int .u64 A4)).other (a := ⟨g, d * 5 + 4, none⟩) hgQ (.string A5))
  have K4 := Lib.hid (((((hin1.setCell (p := ⟨g, d * 5, none⟩) hgX (.int .u64 A1)).setCell (p := ⟨g, d * 5 + 1, none⟩) hgX (.string A2)).setCell (p := ⟨g, d * 5 + 2, none⟩) hgX (.bool A3)).setCell (p := ⟨g, d * 5 + 3, none⟩) hgX (.int .u64 A4)).setCell (p := ⟨g, d * 5 + 4, none⟩) hgX (.string A5))
  have K5 := Lib.hid (((((n1.other hgab (d * 5) (.int .u64 A1)).other hgab (d * 5 + 1) (.string A2)).other hgab (d * 5 + 2) (.bool A3)).other hgab (d * 5 + 3) (.int .u64 A4)).other hgab (d * 5 + 4) (.string A5))
  have HGL : Hid (g < w'.heap.size) := Lib.hid (let ⟨_, h⟩ := n2; h.lt)
  have hgl := HGL.out
  rw [hA]
  clear hin hc hf h g1 g2 g3 m1 hv t1 t2 t3 n1 n2 hin1 hA hA2 hd hdx y2 yl z0 z1 zl cq hwa hgQ hgX hS1g hS2g hgab
  go_upto_region 7 with fail
  have g1 := K1.out
  have g2 := K2.out
  have g3 := K3.out
  have hin := K4.out
  have m1 := K5.out
  have hv := K6.out
  clear K1 K2 K3 K4 K5 K6 c0 c1 c2 c3 c4 f0 f1 f2 f3 f4 hgl HGL
  generalize ((((w'.setCell ⟨g, d * 5, none⟩ (.int .u64 A1)).setCell ⟨g, d * 5 + 1, none⟩ (.string A2)).setCell ⟨g, d * 5 + 2, none⟩ (.bool A3)).setCell ⟨g, d * 5 + 3, none⟩ (.int .u64 A4)).setCell ⟨g, d * 5 + 4, none⟩ (.string A5) = W4 at *
  obtain ⟨zs, hzs⟩ : ∃ zs, zs = xs.set d q := ⟨_, rfl⟩
  have HZ2 : Hid (∀ i, SzK 128 (zs.getD i 0)) := Lib.hid fun i => by
    rw [hzs]
    exact getD_set_szk HZX.out (by rw [HQ.out]; exact qOf_szk hv0 hv1 hv2 hv3)
  rw [← hzs] at hv
  have hzl : zs.length = L := by rw [hzs, List.length_set]; exact HLX.out
  have m2 : MatAt W4 (.agg #[.int .i64 r, .int .i64 c, .slice (some ⟨g, 0, none⟩) L k]) r c zs := ⟨_, rfl, hzl.trans HEL.out, hv.at L hzl.symm k⟩
  have hr6 := HB.out.1
  have hc6 := HB.out.2.1
  obtain ⟨ax, hax⟩ : ∃ ax : Option Addr, ax = some ⟨ab, ao, none⟩ := ⟨_, rfl⟩
  obtain ⟨ay2, hay⟩ : ∃ ay : Option Addr, ay = some ⟨g, 0, none⟩ := ⟨_, rfl⟩
  rw [← hax] at g1 m1
  rw [← hay] at g2 m2
  rw [← hax]
  (try rw [← hay])
  clear hax hay hzs hzl hv hd0 hdI hdL hLn hL0 hg hab hrc hL36
  ((have hr2 : r ≤ 2048 := by have := HB.out; omega);
        (have hc2 : c ≤ 2048 := by have := HB.out; omega);
        (have hrc : r * c ≤ 36 := Nat.mul_le_mul HB.out.1 HB.out.2.1);
        (have hrc' : r * c ≤ 36 := Nat.mul_le_mul hr6 hc6);
        (have hlx : xs.length = r * c := (let ⟨_, _, h, _⟩ := m1; h));
        (have hly : zs.length = r * c := (let ⟨_, _, h, _⟩ := m2; h));
        (have d1 := fun W (h : MatAt W (.agg #[.int .i64 r, .int .i64 c, .slice ax L kx]) r c xs) => ofd_any (j := 128) W _ r c xs h hr2 hc2 HZX.out (by omega));
        (have d2 := fun W (h : MatAt W (.agg #[.int .i64 r, .int .i64 c, .slice ay2 L k]) r c zs) => ofd_any (j := 128) W _ r c zs h (by omega) (by omega) HZ2.out (by omega));
        (have d3 := fun W v (h : SpM W v r c (mvals c xs)) => dense_ok W v r c (mvals c xs) h hr2 hc2);
        (rw [dense_mvals hlx] at d3);
        (have d4 := fun W v (h : MatAt W v r c xs) => lof_any (j := 128) W v r c xs h hr2 hc2 HZX.out (by omega));
        (have HE := Lib.hid (same_dense hlx hly));
        (have HLX := Lib.hid hlx);
        (clear hlx hly hrc hrc');
        (have x0 := g1.c0);
        (have x1 := g1.c1);
        (have x2 := g1.c2);
        (have xl := g1.lt);
        (go_wp2_with fail);
        (((with_reducible refine (d1 _ m1).mono ?_)));
        (rintro e w3 ⟨⟨s, rfl, hs⟩, hb⟩);
        (replace hs := hs.m);
        (obtain ⟨sa, ks, rfl⟩ := hs.shape);
        (replace hin := hin.call hb);
        (replace g1 := g1.call hb);
        (replace g2 := g2.call hb);
        (replace g3 := g3.call hb);
        (replace m1 := m1.call hb);
        (replace m2 := m2.call hb);
        (clear hb d1);
        (clear x0 x1 x2 xl);
        (go_upto_region 8 with fail);
        (obtain ⟨Z1, hZ1⟩ : ∃ z, z = w3.heap.size := ⟨_, rfl⟩);
        (have bZ1 := Bx.new_at w3 #[.int .i64 r, .int .i64 c, .slice sa r ks] 63 hZ1);
        (replace hin := hin.alloc (.cells #[.int .i64 r, .int .i64 c, .slice sa r ks] 63));
        (replace g1 := g1.alloc (.cells #[.int .i64 r, .int .i64 c, .slice sa r ks] 63));
        (replace g2 := g2.alloc (.cells #[.int .i64 r, .int .i64 c, .slice sa r ks] 63));
        (replace g3 := g3.alloc (.cells #[.int .i64 r, .int .i64 c, .slice sa r ks] 63));
        (replace m1 := m1.call ((Below.refl _ _).alloc (Nat.le_refl _) (.cells #[.int .i64 r, .int .i64 c, .slice sa r ks] 63)));
        (replace m2 := m2.call ((Below.refl _ _).alloc (Nat.le_refl _) (.cells #[.int .i64 r, .int .i64 c, .slice sa r ks] 63)));
        (replace hs := hs.call ((Below.refl _ _).alloc (Nat.le_refl _) (.cells #[.int .i64 r, .int .i64 c, .slice sa r ks] 63)));
        (rw [← hZ1]);
        (clear hZ1);
        (generalize w3.alloc (.cells #[.int .i64 r, .int .i64 c, .slice sa r ks] 63) = W3 at *);
        (have y0 := g2.c0);
        (have y1 := g2.c1);
        (have y2 := g2.c2);
        (have yl := g2.lt);
        (go_wp2_with fail);
        (((with_reducible refine (d2 _ m2).mono ?_)));
        (rintro e w4 ⟨⟨t, rfl, ht⟩, hb⟩);
        (replace ht := ht.m);
        (obtain ⟨at_, kt, rfl⟩ := ht.shape);
        (replace hin := hin.call hb);
        (replace g1 := g1.call hb);
        (replace g2 := g2.call hb);
        (replace g3 := g3.call hb);
        (replace m1 := m1.call hb);
        (replace m2 := m2.call hb);
        (replace hs := hs.call hb);
        (replace bZ1 := bZ1.call hb);
        (clear hb d2);
        (clear y0 y1 y2 yl);
        (go_upto_region 9 with fail);
        (obtain ⟨Z2, hZ2⟩ : ∃ z, z = w4.heap.size := ⟨_, rfl⟩);
        (have bZ2 := Bx.new_at w4 #[.int .i64 r, .int .i64 c, .slice at_ r kt] 63 hZ2);
        (replace hin := hin.alloc (.cells #[.int .i64 r, .int .i64 c, .slice at_ r kt] 63));
        (replace g1 := g1.alloc (.cells #[.int .i64 r, .int .i64 c, .slice at_ r kt] 63));
        (replace g2 := g2.alloc (.cells #[.int .i64 r, .int .i64 c, .slice at_ r kt] 63));
        (replace g3 := g3.alloc (.cells #[.int .i64 r, .int .i64 c, .slice at_ r kt] 63));
        (replace bZ1 := bZ1.alloc (.cells #[.int .i64 r, .int .i64 c, .slice at_ r kt] 63));
        (replace m1 := m1.call ((Below.refl _ _).alloc (Nat.le_refl _) (.cells #[.int .i64 r, .int .i64 c, .slice at_ r kt] 63)));
        (replace m2 := m2.call ((Below.refl _ _).alloc (Nat.le_refl _) (.cells #[.int .i64 r, .int .i64 c, .slice at_ r kt] 63)));
        (replace hs := hs.call ((Below.refl _ _).alloc (Nat.le_refl _) (.cells #[.int .i64 r, .int .i64 c, .slice at_ r kt] 63)));
        (replace ht := ht.call ((Below.refl _ _).alloc (Nat.le_refl _) (.cells #[.int .i64 r, .int .i64 c, .slice at_ r kt] 63)));
        (rw [← hZ2]);
        (clear hZ2);
        (generalize w4.alloc (.cells #[.int .i64 r, .int .i64 c, .slice at_ r kt] 63) = W4 at *);
        (have z0 := bZ1.c0);
        (have z1 := bZ1.c1);
        (have z2 := bZ1.c2);
        (have zl := bZ1.lt);
        (go_wp2_with fail);
        (((with_reducible refine (d3 _ _ hs).mono ?_)));
        (rintro e w5 ⟨⟨d, rfl, hd⟩, hb⟩);
        (obtain ⟨ad, kd, rfl⟩ := hd.shape);
        (obtain ⟨Ld, hLd⟩ : ∃ Ld, Ld = xs.length := ⟨_, rfl⟩);
        (rw [← hLd] at hd ⊢);
        (replace hin := hin.call hb);
        (replace g1 := g1.call hb);
        (replace g2 := g2.call hb);
        (replace g3 := g3.call hb);
        (replace m1 := m1.call hb);
        (replace m2 := m2.call hb);
        (replace hs := hs.call hb);
        (replace ht := ht.call hb);
        (replace bZ1 := bZ1.call hb);
        (replace bZ2 := bZ2.call hb);
        (clear hb d3 hLd);
        (clear z0 z1 z2 zl);
        (go_upto_region 10 with fail);
        (obtain ⟨Z3, hZ3⟩ : ∃ z, z = w5.heap.size := ⟨_, rfl⟩);
        (have bZ3 := Bx.new_at w5 #[.int .i64 r, .int .i64 c, .slice ad Ld kd] 78 hZ3);
        (replace hin := hin.alloc (.cells #[.int .i64 r, .int .i64 c, .slice ad Ld kd] 78));
        (replace g1 := g1.alloc (.cells #[.int .i64 r, .int .i64 c, .slice ad Ld kd] 78));
        (replace g2 := g2.alloc (.cells #[.int .i64 r, .int .i64 c, .slice ad Ld kd] 78));
        (replace bZ1 := bZ1.alloc (.cells #[.int .i64 r, .int .i64 c, .slice ad Ld kd] 78));
        (replace bZ2 := bZ2.alloc (.cells #[.int .i64 r, .int .i64 c, .slice ad Ld kd] 78));
        (replace m1 := m1.call ((Below.refl _ _).alloc (Nat.le_refl _) (.cells #[.int .i64 r, .int .i64 c, .slice ad Ld kd] 78)));
        (replace m2 := m2.call ((Below.refl _ _).alloc (Nat.le_refl _) (.cells #[.int .i64 r, .int .i64 c, .slice ad Ld kd] 78)));
        (replace hs := hs.call ((Below.refl _ _).alloc (Nat.le_refl _) (.cells #[.int .i64 r, .int .i64 c, .slice ad Ld kd] 78)));
        (replace ht := ht.call ((Below.refl _ _).alloc (Nat.le_refl _) (.cells #[.int .i64 r, .int .i64 c, .slice ad Ld kd] 78)));
        (replace hd := hd.call ((Below.refl _ _).alloc (Nat.le_refl _) (.cells #[.int .i64 r, .int .i64 c, .slice ad Ld kd] 78)));
        (rw [← hZ3]);
        (clear hZ3);
        (generalize w5.alloc (.cells #[.int .i64 r, .int .i64 c, .slice ad Ld kd] 78) = W5 at *);
        (have e1 := fun W (h : In W5.heap.size W5 W) => msame_any W _ _ r c r c xs xs (hd.call h.bel) (m1.call h.bel) (by rw [HLX.out]; have := Nat.mul_le_mul HB.out.1 HB.out.2.1; omega));
        (rw [show sameD r c xs r c xs = true by simp [sameD]] at e1);
        (have e2 := fun W (h : In W5.heap.size W5 W) => ssame_ok (hs.call h.bel) (ht.call h.bel) hr2 hc2);
        (rw [HE.out] at e2);
        (have e3 := fun W (h : In W5.heap.size W5 W) => msame_any W _ _ r c r c xs zs (m1.call h.bel) (m2.call h.bel) (by rw [HLX.out]; have := Nat.mul_le_mul HB.out.1 HB.out.2.1; omega));
        (have e4 : ∀ W, In W5.heap.size W5 W → Calls Tryz.prog 29 #[.agg #[.int .i64 r, .int .i64 c, .slice ad Ld kd]] W fun e w' => (∃ s, e = .returned s ∧ SpM w' s r c (mvals c xs)) ∧ Below W.heap.size W w' := fun W h => (d4 W _ (hd.call h.bel)).mono fun e w' ⟨⟨s, h1, h2⟩, h3⟩ => ⟨⟨s, h1, h2.m⟩, h3⟩);
        (have e5 : ∀ W v, In W5.heap.size W5 W → SpM W v r c (mvals c xs) → Calls Tryz.prog 23 #[.agg #[.int .i64 r, .int .i64 c, .slice sa r ks], v] W fun e w' => e = .returned (.bool true) ∧ Below W.heap.size W w' := fun W v h h2 => (ssame_ok (hs.call h.bel) h2 hr2 hc2).mono fun e w' ⟨h3, h4⟩ => ⟨by rw [h3, sameM_self (fun _ _ _ _ => rfl)], h4⟩);
        (obtain ⟨z, hz⟩ : ∃ z, z = sameD r c xs r c zs := ⟨_, rfl⟩);
        (rw [← hz] at e2 e3);
        (clear hz);
        (have x0 := g1.c0);
        (have x1 := g1.c1);
        (have x2 := g1.c2);
        (have xl := g1.lt);
        (have y0 := g2.c0);
        (have y1 := g2.c1);
        (have y2 := g2.c2);
        (have yl := g2.lt);
        (have s0 := bZ1.c0);
        (have s1 := bZ1.c1);
        (have s2 := bZ1.c2);
        (have sl := bZ1.lt);
        (have t0 := bZ2.c0);
        (have t1 := bZ2.c1);
        (have t2 := bZ2.c2);
        (have tl := bZ2.lt);
        (have d0 := bZ3.c0);
        (have d1 := bZ3.c1);
        (have d2 := bZ3.c2);
        (have dl := bZ3.lt);
        (clear g1 g2 g3 m1 m2 hs ht hd bZ1 bZ2 bZ3 d4);
        (have h := In.self W5);
        (have hc := h.cell);
        (refine wp_region_flow 33 (by kernel_rfl) (by kernel_rfl) (fun _ _ d _ _ h => by cases d <;> exact h) ?_; simp only [List.take_succ_cons, List.take_zero, List.drop_succ_cons, List.drop_zero]; simp only [putAll, Act.put, List.setIfInBounds_toArray, List.set]; (try simp only [Nat.reduceAdd]); (try simp only [Nat.zero_add]); (repeat (first | ((with_reducible refine flow_float (v := ?_) ?_ ?_ ?_); rotate_left 1; (focus (with_reducible rfl)); (focus (intro u w1 hw hd w2; (try simp only [depH] at hd); (try simp only [ext] at hd); (try simp only [Nat.reduceAdd] at hd); (try simp only [Nat.reduceEqDiff] at hd); (try simp only [reduceIte] at hd); (try simp only [if_true] at hd); (try simp only [if_false] at hd); (try simp only [and_true] at hd); (try simp only [true_and] at hd); go_simp; exact rfl))) | ((with_reducible refine flow_pure0 (v := ?_) ?_ ?_ ?_ ?_); rotate_left 1; (focus (with_reducible rfl)); (focus rfl); (focus (intro u w1 hw hd; (try simp only [depH] at hd); (try simp only [ext] at hd); (try simp only [Nat.reduceAdd] at hd); (try simp only [Nat.reduceEqDiff] at hd); (try simp only [reduceIte] at hd); (try simp only [if_true] at hd); (try simp only [if_false] at hd); (try simp only [and_true] at hd); (try simp only [true_and] at hd); have hc' := hw.cell; go_simp; exact rfl))) | ((with_reducible refine flow_skipg (j := ?_) (b := ?_) ?_ ?_ ?_); rotate_left 2; (focus (with_reducible rfl)); (focus (intro u w1 hw hd; (try simp only [depH] at hd); (try simp only [ext] at hd); (try simp only [Nat.reduceAdd] at hd); (try simp only [Nat.reduceEqDiff] at hd); (try simp only [reduceIte] at hd); (try simp only [if_true] at hd); (try simp only [if_false] at hd); (try simp only [and_true] at hd); (try simp only [true_and] at hd); simp [yielded, hd]; done))) | ((with_reducible refine flow_pureg (v := ?_) (j := ?_) (b := ?_) ?_ ?_ ?_ ?_); rotate_left 3; (focus (with_reducible rfl)); (focus (intro u w1 hw hd; (try simp only [depH] at hd); (try simp only [ext] at hd); (try simp only [Nat.reduceAdd] at hd); (try simp only [Nat.reduceEqDiff] at hd); (try simp only [reduceIte] at hd); (try simp only [if_true] at hd); (try simp only [if_false] at hd); (try simp only [and_true] at hd); (try simp only [true_and] at hd); simp [yielded, hd]; done)); (focus (intro u w1 hw hd; (try simp only [depH] at hd); (try simp only [ext] at hd); (try simp only [Nat.reduceAdd] at hd); (try simp only [Nat.reduceEqDiff] at hd); (try simp only [reduceIte] at hd); (try simp only [if_true] at hd); (try simp only [if_false] at hd); (try simp only [and_true] at hd); (try simp only [true_and] at hd); have hc' := hw.cell; go_simp; exact rfl))) | ((with_reducible refine flow_alloc (t := ?_) (zs := ?_) ?_ ?_ ?_ ?_); rotate_left 2; (focus (with_reducible rfl)); (focus rfl); (focus (intro u w1; go_simp; exact rfl))) | ((with_reducible refine flow_pure0 (v := ?_) ?_ ?_ ?_ ?_); rotate_left 1; (focus (with_reducible rfl)); (focus rfl); (focus (intro u w1 hw hd; (try simp only [depH] at hd); (try simp only [ext] at hd); (try simp only [Nat.reduceAdd] at hd); (try simp only [Nat.reduceEqDiff] at hd); (try simp only [reduceIte] at hd); (try simp only [if_true] at hd); (try simp only [if_false] at hd); (try simp only [and_true] at hd); (try simp only [true_and] at hd); have hc' := hw.cell; go_simp; go_at_call 28; ((with_reducible refine (e1 _ hw.ins).mono ?_)); rintro e w'' ⟨rfl, hb⟩; refine ⟨?_, hb⟩; exact rfl))) | ((with_reducible refine flow_pureg (v := ?_) (j := ?_) (b := ?_) ?_ ?_ ?_ ?_); rotate_left 3; (focus (with_reducible rfl)); (focus (intro u w1 hw hd; (try simp only [depH] at hd); (try simp only [ext] at hd); (try simp only [Nat.reduceAdd] at hd); (try simp only [Nat.reduceEqDiff] at hd); (try simp only [reduceIte] at hd); (try simp only [if_true] at hd); (try simp only [if_false] at hd); (try simp only [and_true] at hd); (try simp only [true_and] at hd); simp [yielded, hd]; done)); (focus (intro u w1 hw hd; (try simp only [depH] at hd); (try simp only [ext] at hd); (try simp only [Nat.reduceAdd] at hd); (try simp only [Nat.reduceEqDiff] at hd); (try simp only [reduceIte] at hd); (try simp only [if_true] at hd); (try simp only [if_false] at hd); (try simp only [and_true] at hd); (try simp only [true_and] at hd); have hc' := hw.cell; go_simp; go_at_call 28; ((with_reducible refine (e1 _ hw.ins).mono ?_)); rintro e w'' ⟨rfl, hb⟩; refine ⟨?_, hb⟩; exact rfl))) | ((with_reducible refine flow_pure0 (v := ?_) ?_ ?_ ?_ ?_); rotate_left 1; (focus (with_reducible rfl)); (focus rfl); (focus (intro u w1 hw hd; (try simp only [depH] at hd); (try simp only [ext] at hd); (try simp only [Nat.reduceAdd] at hd); (try simp only [Nat.reduceEqDiff] at hd); (try simp only [reduceIte] at hd); (try simp only [if_true] at hd); (try simp only [if_false] at hd); (try simp only [and_true] at hd); (try simp only [true_and] at hd); have hc' := hw.cell; go_simp; go_at_call 23; ((with_reducible refine (e2 _ hw.ins).mono ?_)); rintro e w'' ⟨rfl, hb⟩; refine ⟨?_, hb⟩; exact rfl))) | ((with_reducible refine flow_pureg (v := ?_) (j := ?_) (b := ?_) ?_ ?_ ?_ ?_); rotate_left 3; (focus (with_reducible rfl)); (focus (intro u w1 hw hd; (try simp only [depH] at hd); (try simp only [ext] at hd); (try simp only [Nat.reduceAdd] at hd); (try simp only [Nat.reduceEqDiff] at hd); (try simp only [reduceIte] at hd); (try simp only [if_true] at hd); (try simp only [if_false] at hd); (try simp only [and_true] at hd); (try simp only [true_and] at hd); simp [yielded, hd]; done)); (focus (intro u w1 hw hd; (try simp only [depH] at hd); (try simp only [ext] at hd); (try simp only [Nat.reduceAdd] at hd); (try simp only [Nat.reduceEqDiff] at hd); (try simp only [reduceIte] at hd); (try simp only [if_true] at hd); (try simp only [if_false] at hd); (try simp only [and_true] at hd); (try simp only [true_and] at hd); have hc' := hw.cell; go_simp; go_at_call 23; ((with_reducible refine (e2 _ hw.ins).mono ?_)); rintro e w'' ⟨rfl, hb⟩; refine ⟨?_, hb⟩; exact rfl))) | ((with_reducible refine flow_pure0 (v := ?_) ?_ ?_ ?_ ?_); rotate_left 1; (focus (with_reducible rfl)); (focus rfl); (focus (intro u w1 hw hd; (try simp only [depH] at hd); (try simp only [ext] at hd); (try simp only [Nat.reduceAdd] at hd); (try simp only [Nat.reduceEqDiff] at hd); (try simp only [reduceIte] at hd); (try simp only [if_true] at hd); (try simp only [if_false] at hd); (try simp only [and_true] at hd); (try simp only [true_and] at hd); have hc' := hw.cell; go_simp; go_at_call 28; ((with_reducible refine (e3 _ hw.ins).mono ?_)); rintro e w'' ⟨rfl, hb⟩; refine ⟨?_, hb⟩; exact rfl))) | ((with_reducible refine flow_pureg (v := ?_) (j := ?_) (b := ?_) ?_ ?_ ?_ ?_); rotate_left 3; (focus (with_reducible rfl)); (focus (intro u w1 hw hd; (try simp only [depH] at hd); (try simp only [ext] at hd); (try simp only [Nat.reduceAdd] at hd); (try simp only [Nat.reduceEqDiff] at hd); (try simp only [reduceIte] at hd); (try simp only [if_true] at hd); (try simp only [if_false] at hd); (try simp only [and_true] at hd); (try simp only [true_and] at hd); simp [yielded, hd]; done)); (focus (intro u w1 hw hd; (try simp only [depH] at hd); (try simp only [ext] at hd); (try simp only [Nat.reduceAdd] at hd); (try simp only [Nat.reduceEqDiff] at hd); (try simp only [reduceIte] at hd); (try simp only [if_true] at hd); (try simp only [if_false] at hd); (try simp only [and_true] at hd); (try simp only [true_and] at hd); have hc' := hw.cell; go_simp; go_at_call 28; ((with_reducible refine (e3 _ hw.ins).mono ?_)); rintro e w'' ⟨rfl, hb⟩; refine ⟨?_, hb⟩; exact rfl))))));
        ((with_reducible refine flow_relg (Vi := fun x W => SpM W x r c (mvals c xs)) (j := ?_) (b := ?_) ?_ ?_ ?_ ?_ ?_); rotate_left 2; (focus (with_reducible rfl)); (focus (intro u w1 hw hd; (try simp only [depH] at hd); (try simp only [ext] at hd); (try simp only [Nat.reduceAdd] at hd); (try simp only [Nat.reduceEqDiff] at hd); (try simp only [reduceIte] at hd); (try simp only [if_true] at hd); (try simp only [if_false] at hd); (try simp only [and_true] at hd); (try simp only [true_and] at hd); simp [yielded, hd]; done)); (focus exact stable_spm _ _ _); (focus (intro u w1 hw hd; (try simp only [depH] at hd); (try simp only [ext] at hd); (try simp only [Nat.reduceAdd] at hd); (try simp only [Nat.reduceEqDiff] at hd); (try simp only [reduceIte] at hd); (try simp only [if_true] at hd); (try simp only [if_false] at hd); (try simp only [and_true] at hd); (try simp only [true_and] at hd); have hc' := hw.cell; go_simp; (try simp only [okUpon]); go_at_call 29; ((with_reducible refine (e4 _ hw.ins).mono ?_)); rintro e w'' ⟨⟨v, rfl, hv⟩, hb⟩; exact ⟨v, rfl, ⟨hv, fun h => by cases h⟩, hb⟩)));
        (((with_reducible refine flow_pureg (v := .bool true) (j := ?_) (b := ?_) ?_ ?_ ?_ ?_); rotate_left 2; (focus (with_reducible rfl)); (focus (intro u w1 hw hd; (try simp only [depH] at hd); (try simp only [ext] at hd); (try simp only [Nat.reduceAdd] at hd); (try simp only [Nat.reduceEqDiff] at hd); (try simp only [reduceIte] at hd); (try simp only [if_true] at hd); (try simp only [if_false] at hd); (try simp only [and_true] at hd); (try simp only [true_and] at hd); simp [yielded, hd]; done)); (focus (intro u w1 hw hd; (try simp only [depH] at hd); (try simp only [ext] at hd); (try simp only [Nat.reduceAdd] at hd); (try simp only [Nat.reduceEqDiff] at hd); (try simp only [reduceIte] at hd); (try simp only [if_true] at hd); (try simp only [if_false] at hd); (try simp only [and_true] at hd); (try simp only [true_and] at hd); obtain ⟨hd1, hd2, _⟩ := hd; go_simp; go_at_call 23; refine (e5 _ _ hw.ins hd2).mono ?_; rintro e w'' ⟨rfl, hb⟩; exact ⟨rfl, hb⟩))));
        ((repeat (first | ((with_reducible refine flow_float (v := ?_) ?_ ?_ ?_); rotate_left 1; (focus (with_reducible rfl)); (focus (intro u w1 hw hd w2; (try simp only [depH] at hd); (try simp only [ext] at hd); (try simp only [Nat.reduceAdd] at hd); (try simp only [Nat.reduceEqDiff] at hd); (try simp only [reduceIte] at hd); (try simp only [if_true] at hd); (try simp only [if_false] at hd); (try simp only [and_true] at hd); (try simp only [true_and] at hd); go_simp; exact rfl))) | ((with_reducible refine flow_pure0 (v := ?_) ?_ ?_ ?_ ?_); rotate_left 1; (focus (with_reducible rfl)); (focus rfl); (focus (intro u w1 hw hd; (try simp only [depH] at hd); (try simp only [ext] at hd); (try simp only [Nat.reduceAdd] at hd); (try simp only [Nat.reduceEqDiff] at hd); (try simp only [reduceIte] at hd); (try simp only [if_true] at hd); (try simp only [if_false] at hd); (try simp only [and_true] at hd); (try simp only [true_and] at hd); have hc' := hw.cell; go_simp; exact rfl))) | ((with_reducible refine flow_skipg (j := ?_) (b := ?_) ?_ ?_ ?_); rotate_left 2; (focus (with_reducible rfl)); (focus (intro u w1 hw hd; (try simp only [depH] at hd); (try simp only [ext] at hd); (try simp only [Nat.reduceAdd] at hd); (try simp only [Nat.reduceEqDiff] at hd); (try simp only [reduceIte] at hd); (try simp only [if_true] at hd); (try simp only [if_false] at hd); (try simp only [and_true] at hd); (try simp only [true_and] at hd); simp [yielded, hd]; done))) | ((with_reducible refine flow_pureg (v := ?_) (j := ?_) (b := ?_) ?_ ?_ ?_ ?_); rotate_left 3; (focus (with_reducible rfl)); (focus (intro u w1 hw hd; (try simp only [depH] at hd); (try simp only [ext] at hd); (try simp only [Nat.reduceAdd] at hd); (try simp only [Nat.reduceEqDiff] at hd); (try simp only [reduceIte] at hd); (try simp only [if_true] at hd); (try simp only [if_false] at hd); (try simp only [and_true] at hd); (try simp only [true_and] at hd); simp [yielded, hd]; done)); (focus (intro u w1 hw hd; (try simp only [depH] at hd); (try simp only [ext] at hd); (try simp only [Nat.reduceAdd] at hd); (try simp only [Nat.reduceEqDiff] at hd); (try simp only [reduceIte] at hd); (try simp only [if_true] at hd); (try simp only [if_false] at hd); (try simp only [and_true] at hd); (try simp only [true_and] at hd); have hc' := hw.cell; go_simp; exact rfl))) | ((with_reducible refine flow_alloc (t := ?_) (zs := ?_) ?_ ?_ ?_ ?_); rotate_left 2; (focus (with_reducible rfl)); (focus rfl); (focus (intro u w1; go_simp; exact rfl))) | ((with_reducible refine flow_pure0 (v := ?_) ?_ ?_ ?_ ?_); rotate_left 1; (focus (with_reducible rfl)); (focus rfl); (focus (intro u w1 hw hd; (try simp only [depH] at hd); (try simp only [ext] at hd); (try simp only [Nat.reduceAdd] at hd); (try simp only [Nat.reduceEqDiff] at hd); (try simp only [reduceIte] at hd); (try simp only [if_true] at hd); (try simp only [if_false] at hd); (try simp only [and_true] at hd); (try simp only [true_and] at hd); have hc' := hw.cell; go_simp; go_at_call 10; ((with_reducible refine (cz _).mono ?_)); rintro e w'' ⟨rfl, hb⟩; refine ⟨?_, hb⟩; exact rfl))) | ((with_reducible refine flow_pureg (v := ?_) (j := ?_) (b := ?_) ?_ ?_ ?_ ?_); rotate_left 3; (focus (with_reducible rfl)); (focus (intro u w1 hw hd; (try simp only [depH] at hd); (try simp only [ext] at hd); (try simp only [Nat.reduceAdd] at hd); (try simp only [Nat.reduceEqDiff] at hd); (try simp only [reduceIte] at hd); (try simp only [if_true] at hd); (try simp only [if_false] at hd); (try simp only [and_true] at hd); (try simp only [true_and] at hd); simp [yielded, hd]; done)); (focus (intro u w1 hw hd; (try simp only [depH] at hd); (try simp only [ext] at hd); (try simp only [Nat.reduceAdd] at hd); (try simp only [Nat.reduceEqDiff] at hd); (try simp only [reduceIte] at hd); (try simp only [if_true] at hd); (try simp only [if_false] at hd); (try simp only [and_true] at hd); (try simp only [true_and] at hd); have hc' := hw.cell; go_simp; go_at_call 10; ((with_reducible refine (cz _).mono ?_)); rintro e w'' ⟨rfl, hb⟩; refine ⟨?_, hb⟩; exact rfl))))));
        ((try clear hc hf h); intro u w' h ha hdi; replace h := h.ins; (try simp only [World.size_alloc] at h); (try dsimp only at ha); (repeat rw [World.size_alloc] at ha); (try simp only [allH] at ha); (try simp only [ext] at ha); (try simp only [Nat.reduceAdd] at ha); (try simp only [Nat.reduceEqDiff] at ha); (try simp only [reduceIte] at ha); (try simp only [if_true] at ha); (try simp only [if_false] at ha); (try simp only [and_true] at ha); (try simp only [true_and] at ha); have hc := h.cell; have hf := h.frozen);
        ((try obtain ha := ha); (try dsimp only);  simp only [ha]; clear ha hdi );
        (have hfin := hin.call h.bel);
        (clear hc hf h hin);
        (go_wp2_with fail);
        (go_ret);
        (exact ⟨rfl, by rw [← HX.out]; exact hfin.bel⟩))
end Gus
end
section
/- gussetlaw16.SparsesSame, of all arguments. -/
namespace Gus
open Go Go.RowKit Go.Proofs
theorem same_all (w : World) (R0 C0 R1 C1 : Nat) (hR0 : R0 < 256) (hC0 : C0 < 256) (hR1 : R1 < 256) (hC1 : C1 < 256) (a b : Option Addr) (ca cb at0 : Nat) (hat : at0 < 256) (qa qb : List (Int × Int)) (hqa : QAt w a qa) (hqb : QAt w b qb) (hoa : QOk qa) (hob : QOk qb) (hla : qa.length ≤ maxLen) (hlb : qb.length ≤ maxLen) (cp : Bool)
    (vn vd : Int) (hv0 : -9223372036854775808 ≤ vn) (hv1 : vn < 9223372036854775808) (hv2 : 0 ≤ vd) (hv3 : vd < 4294967296) :
    Calls Tryz.prog 4 #[.agg #[.int .u8 R0, .int .u8 C0, .slice a qa.length ca], .agg #[.int .u8 R1, .int .u8 C1, .slice b qb.length cb], .bool cp, .int .u8 at0, .agg #[.int .i64 vn, .int .u32 vd]] w fun e w' => e = .returned (.bool true) ∧ Below w.heap.size w w' := by
  by_cases hs : qa.length ≤ 40 ∧ qb.length ≤ 40
  · by_cases hn : cp = false ∨ R0 % 7 * (C0 % 7) = 0
    · exact same_no w R0 C0 R1 C1 hR0 hC0 hR1 hC1 a b ca cb at0 qa qb hqa hqb hoa hob hs.1 hs.2 cp vn vd hn
    · rcases cp with _ | _
      · exact absurd (.inl rfl) hn
      · exact same_copy w R0 C0 R1 C1 hR0 hC0 hR1 hC1 a b ca cb at0 hat qa qb hqa hqb hoa hob hs.1 hs.2 vn vd hv0 hv1 hv2 hv3 (by omega)
  · exact same_large w R0 C0 R1 C1 a b ca cb qa.length qb.length at0 cp vn vd (by simp only [maxLen] at hla; omega) (by simp only [maxLen] at hlb; omega) hs
end Gus
end
section
/- What all cards of this seat share: a world that holds the listed tables; the last step of a row whose call only makes memory. -/
namespace Gus
open Go Go.RowKit Go.Proofs Go.ChangeShapes Go.WideShapes Go.ChangeAt
theorem ownK : ownKnob Tryz.prog.godebug = none := by kernel_rfl
def tabP : Obj → Obj
  | .cells _ t frozen => .cells #[.int .u64 1, .int .u64 10, .int .u64 100, .int .u64 1000, .int .u64 10000, .int .u64 100000, .int .u64 1000000, .int .u64 10000000, .int .u64 100000000, .int .u64 1000000000, .int .u64 10000000000, .int .u64 100000000000, .int .u64 1000000000000, .int .u64 10000000000000, .int .u64 100000000000000, .int .u64 1000000000000000, .int .u64 10000000000000000, .int .u64 100000000000000000, .int .u64 1000000000000000000, .int .u64 10000000000000000000] t frozen
  | o => o
def tabA : Obj → Obj
  | .cells _ t frozen => .cells #[.int .u8 0, .int .u8 1, .int .u8 28, .int .u8 2, .int .u8 29, .int .u8 14, .int .u8 24, .int .u8 3, .int .u8 30, .int .u8 22, .int .u8 20, .int .u8 15, .int .u8 25, .int .u8 17, .int .u8 4, .int .u8 8, .int .u8 31, .int .u8 27, .int .u8 13, .int .u8 23, .int .u8 21, .int .u8 19, .int .u8 16, .int .u8 7, .int .u8 26, .int .u8 12, .int .u8 18, .int .u8 6, .int .u8 11, .int .u8 5, .int .u8 10, .int .u8 9] t frozen
  | o => o
def tabB : Obj → Obj
  | .cells _ t frozen => .cells #[.int .u8 0, .int .u8 1, .int .u8 56, .int .u8 2, .int .u8 57, .int .u8 49, .int .u8 28, .int .u8 3, .int .u8 61, .int .u8 58, .int .u8 42, .int .u8 50, .int .u8 38, .int .u8 29, .int .u8 17, .int .u8 4, .int .u8 62, .int .u8 47, .int .u8 59, .int .u8 36, .int .u8 45, .int .u8 43, .int .u8 51, .int .u8 22, .int .u8 53, .int .u8 39, .int .u8 33, .int .u8 30, .int .u8 24, .int .u8 18, .int .u8 12, .int .u8 5, .int .u8 63, .int .u8 55, .int .u8 48, .int .u8 27, .int .u8 60, .int .u8 41, .int .u8 37, .int .u8 16, .int .u8 46, .int .u8 35, .int .u8 44, .int .u8 21, .int .u8 52, .int .u8 32, .int .u8 23, .int .u8 11, .int .u8 54, .int .u8 26, .int .u8 40, .int .u8 15, .int .u8 34, .int .u8 20, .int .u8 31, .int .u8 10, .int .u8 25, .int .u8 14, .int .u8 19, .int .u8 9, .int .u8 13, .int .u8 8, .int .u8 7, .int .u8 6] t frozen
  | o => o
noncomputable def laidW (os : Os) : World :=
  { World.holding Tryz.prog os ⟨#[], #[], []⟩ with heap := (((World.holding Tryz.prog os ⟨#[], #[], []⟩).heap.modify 0 tabP).modify 3 tabA).modify 4 tabB }
section
variable {H : Type} {enc : TypeId × Value → H} {P : Program}
/-- a call behind which nothing that was there has turned: its row's last condition -/
theorem row_end {f : Func} {s : ChangeSpec} {apart fresh handsOn again : Bool} {W W' : World} {args : Array Value} {v : Value} {ds gs : List (DataW H)} {before pa pv : List MemPlace}
    (hb : Below W.heap.size W W') (hW : DataW.Whole enc P f.params.toList s.vars apart W args.toList ds gs before) (hps : before = pa ++ pv)
    (hargs : ∀ sp : Nat → Bool, (∀ p ∈ before, sp p.block = true) → DataW.TrodAll enc P W' 0 sp true f.params.toList args.toList (s.fn H (ds ++ gs)).args pa)
    (hvars : ∀ sp : Nat → Bool, (∀ p ∈ before, sp p.block = true) → DataW.TrodVars enc P W' sp s.vars (s.fn H (ds ++ gs)).vars pv)
    (hres : ∀ (b : Nat) (sp : Nat → Bool) (hd : Bool), DataW.TrodAll enc P W' b sp hd f.resultTypes.toList (v.resultList f.resultTypes.size) (s.fn H (ds ++ gs)).results [])
    (hok : ∀ (j : Nat) (t : TypeId) (r : Value), f.resultTypes[j]? = some t → (v.resultList f.resultTypes.size)[j]? = some r → Value.okWide P W' .any 0 t r) :
    s.post enc P f apart fresh handsOn again W args v W' := by
  have hin : ∀ p ∈ before, decide (p.block < W.heap.size) = true := fun p hp => decide_eq_true (hW.lt p hp)
  have hkept : W.keptBut W' (fun p => p ∈ before ∧ p ∈ pa ++ pv) := World.keptBut_mono (fun p hp => ⟨hp, hps ▸ hp⟩) (hb.frame (· ∈ before))
  refine ⟨ds, gs, before, [], pa, pv, hW, hres _ _ _, hargs _ hin, hvars _ hin, World.keptBut_mono (fun p hp => ⟨hp.1, ?_⟩) hkept, fun _ => ?_⟩
  · exact .inr (List.mem_append.1 hp.2)
  · have hlt := hW.lt
    obtain ⟨_, _, _, _, _, hz, hn⟩ := hW
    refine ⟨hok, _, _, ([] ++ pa) ++ pv, ⟨[] ++ pa, pv, trodAll_append (hargs _ (fun _ _ => rfl)) (hres _ _ _), hvars _ (fun _ _ => rfl), rfl, ?_, ?_⟩, ?_⟩
    · intro b off hp
      have hq : MemPlace.cell b off ∈ before := by rw [hps]; simpa using hp
      exact (hb.frozen (hlt _ hq)).trans (hz b off hq)
    · intro ha
      have h2 := hn ha
      rw [hps] at h2
      simpa using h2
    · intro p hp _
      rw [hps]
      simpa using hp
end
end Gus
end
section
/- Arguments of the laws as they are read: fractions, slices of fractions, matrices; they read as before where nothing has turned. -/
namespace Gus
open Go Go.RowKit Go.Proofs Go.ChangeShapes Go.WideShapes Go.ChangeAt Go.Deep
section
variable {H : Type} {enc : TypeId × Value → H} {W : World} {base : Nat} {sp : Nat → Bool} {held : Bool}
theorem laidOut : laidOutB Tryz.prog = true := by kernel_rfl
theorem args_stay {W' : World} {sp' : Nat → Bool} (hb : Below W.heap.size W W') : ∀ {ts : List TypeId} {vs : List Value} {ds : List (DataW H)} {p : List MemPlace}, (∀ t ∈ ts, Tryz.prog.readableRec t = true ∧ t < Tryz.prog.types.size) → DataW.TrodAll enc Tryz.prog W 0 (fun _ => true) true ts vs ds p → (∀ x ∈ p, x.block < W.heap.size) → (∀ x ∈ p, sp' x.block = true) → DataW.TrodAll enc Tryz.prog W' 0 sp' true ts vs ds p
  | [], _, _, _, _, h, _, _ => by
    obtain ⟨rfl, rfl, rfl⟩ := trodAll_nil h
    exact trodAll_mk0
  | t :: ts, _, _, _, hts, h, hlt, hsp => by
    obtain ⟨v, vs, d, ds, p, q, rfl, rfl, rfl, h0, h1⟩ := trodAll_cons h
    exact trodAll_cons_mk (WideElems.Trod_stays laidOut (hts t (.head _)).1 (hts t (.head _)).2 h0 (fun x hx => hb.same (hlt x (List.mem_append.2 (.inl hx)))) (fun x hx => hsp x (List.mem_append.2 (.inl hx))))
      (args_stay hb (fun t ht => hts t (List.mem_cons_of_mem _ ht)) h1 (fun x hx => hlt x (List.mem_append.2 (.inr hx))) (fun x hx => hsp x (List.mem_append.2 (.inr hx))))
theorem cell_in {w : World} {a : Addr} {v : Value} (h : w.cell? a = some v) : a.block < w.heap.size := by
  rcases Nat.lt_or_ge a.block w.heap.size with h1 | h1
  · exact h1
  · have : w.heap[a.block]? = none := by simp [h1]
    simp [World.cell?, this] at h
set_option maxRecDepth 100000 in
theorem open_q {b0 : Nat} {v : Value} {d : DataW H} {ps : List MemPlace} (hval : Value.okWide Tryz.prog W .any b0 35 v) (hd : DataW.Trod enc Tryz.prog W base sp held 35 v d ps) :
    ∃ n e : Int, v = .agg #[.int .i64 n, .int .u32 e] ∧ -9223372036854775808 ≤ n ∧ n < 9223372036854775808 ∧ 0 ≤ e ∧ e < 4294967296 := by
  obtain ⟨cs, rfl, hs⟩ := okWide_struct Tryz.underlying35 hval
  obtain ⟨fuel, hf⟩ := hd
  rw [show Tryz.prog.cellsOf 35 = 2 by kernel_rfl] at hs
  obtain ⟨x, y, rfl⟩ : ∃ x y, cs = #[x, y] := by
    rcases cs with ⟨l⟩
    match l, hs with
    | [x, y], _ => exact ⟨x, y, rfl⟩
  obtain ⟨y0, y1, m, _, _, h0, h1⟩ := trod_struct2 Tryz.underlying35 hf
  obtain ⟨n, g0, _, w0⟩ := DataW.trod_int Tryz.underlying2 h0
  obtain ⟨e, g1, _, w1⟩ := DataW.trod_int Tryz.underlying33 h1
  simp [Value.cells, show Tryz.prog.cellsOf 2 = 1 by kernel_rfl, show Tryz.prog.cellsOf 33 = 1 by kernel_rfl] at g0 g1
  subst g0 g1
  have b0 := bounds_i64 w0
  have b1 := bounds_u32 w1
  exact ⟨n, e, rfl, b0.1, by omega, b1.1, by omega⟩
set_option maxRecDepth 100000 in
theorem open_qs {fuel : Nat} {cs : List Value} {x : DataW H × List MemPlace} (h : DataW.trod enc Tryz.prog W base sp held fuel 72 cs = some x) :
    ∃ a qs cap, cs = [.slice a (List.length qs) cap] ∧ QAt W a qs ∧ QOk qs ∧ qs.length ≤ maxLen := by
  rcases open_slice_pairs (P := Tryz.prog) Tryz.underlying72 Tryz.underlying35 (by kernel_rfl) rfl rfl (by kernel_rfl) (by kernel_rfl) h with ⟨rfl, _⟩ | ⟨a, len, cap, m, n, V0, V1, D0, D1, P0, P1, rfl, _, hlc, hcm, hm, _, hx⟩
  · exact ⟨none, [], 0, rfl, fun i hi => absurd hi (Nat.not_lt_zero _), fun p hp => by (cases hp), Nat.zero_le _⟩
  · have hlm : len ≤ m := by rw [hm]; split <;> omega
    have hz : ∀ i, i < len → ∃ z0 z1 : Int, V0 i = .int .i64 z0 ∧ V1 i = .int .u32 z1 ∧ (Lit.int .i64 z0).wf = true ∧ (Lit.int .u32 z1).wf = true := fun i hi => by
      obtain ⟨_, _, h2, h3⟩ := hx i (by omega)
      obtain ⟨z0, g0, _, w0⟩ := DataW.trod_int Tryz.underlying2 h2
      obtain ⟨z1, g1, _, w1⟩ := DataW.trod_int Tryz.underlying33 h3
      simp only [List.cons.injEq, and_true] at g0 g1
      exact ⟨z0, z1, g0, g1, w0, w1⟩
    refine ⟨some a, (List.range len).map fun i => (RowKit.intOf (V0 i), RowKit.intOf (V1 i)), cap, by rw [List.length_map, List.length_range], fun i hi => ?_, fun p hp => ?_, by rw [List.length_map, List.length_range]; omega⟩
    · rw [List.length_map, List.length_range] at hi
      obtain ⟨z0, z1, e0, e1, _, _⟩ := hz i hi
      obtain ⟨c0, c1, _, _⟩ := hx i (by omega)
      obtain ⟨b, off, spot⟩ := a
      obtain rfl : spot = none := by
        have hs := World.cell?_spot (hx 0 (by omega)).1
        simpa [Addr.add] using hs
      rw [add_plain] at c0 c1
      refine ⟨b, off, rfl, cell_in c0, ?_, ?_⟩
      · rw [Nat.mul_comm, c0, e0]; simp [hi, e0, RowKit.intOf]
      · rw [Nat.mul_comm, Nat.add_assoc, c1, e1]; simp [hi, e1, RowKit.intOf]
    · obtain ⟨i, hi, rfl⟩ := List.mem_map.1 hp
      obtain ⟨z0, z1, e0, e1, w0, w1⟩ := hz i (List.mem_range.1 hi)
      have b0 := bounds_i64 w0
      have b1 := bounds_u32 w1
      simp only [e0, e1, RowKit.intOf]
      exact ⟨b0.1, by omega, b1.1, by omega⟩
set_option maxRecDepth 100000 in
theorem open_vec {b0 : Nat} {v : Value} {d : DataW H} {ps : List MemPlace} (hval : Value.okWide Tryz.prog W .any b0 72 v) (hd : DataW.Trod enc Tryz.prog W base sp held 72 v d ps) :
    ∃ a qs cap, v = .slice a (List.length qs) cap ∧ QAt W a qs ∧ QOk qs ∧ qs.length ≤ maxLen := by
  obtain ⟨a, len, cap, rfl⟩ := okWide_slice Tryz.underlying72 hval
  obtain ⟨fuel, hf⟩ := hd
  obtain ⟨a', qs, cap', e, h1, h2, h3⟩ := open_qs hf
  simp [Value.cells] at e
  obtain ⟨rfl, rfl, rfl⟩ := e
  exact ⟨a, qs, cap, rfl, h1, h2, h3⟩
set_option maxRecDepth 100000 in
theorem open_m {b0 : Nat} {v : Value} {d : DataW H} {ps : List MemPlace} (hval : Value.okWide Tryz.prog W .any b0 74 v) (hd : DataW.Trod enc Tryz.prog W base sp held 74 v d ps) :
    ∃ (R C : Nat) (a : Option Addr) (qs : List (Int × Int)) (cap : Nat), v = .agg #[.int .u8 R, .int .u8 C, .slice a qs.length cap] ∧ R < 256 ∧ C < 256 ∧ QAt W a qs ∧ QOk qs ∧ qs.length ≤ maxLen := by
  obtain ⟨cs, rfl, hs⟩ := okWide_struct Tryz.underlying74 hval
  obtain ⟨fuel, hf⟩ := hd
  rw [show Tryz.prog.cellsOf 74 = 3 by kernel_rfl] at hs
  obtain ⟨x, y, z, rfl⟩ : ∃ x y z, cs = #[x, y, z] := by
    rcases cs with ⟨l⟩
    match l, hs with
    | [x, y, z], _ => exact ⟨x, y, z, rfl⟩
  obtain ⟨xs, m, _, _, _, hxl, hf⟩ := DataW.trod_struct Tryz.underlying74 hf
  match xs, hxl with
  | [y0, y1, y2], _ =>
    have h0 := hf 0 _ rfl
    have h1 := hf 1 _ rfl
    have h2 := hf 2 _ rfl
    obtain ⟨n, g0, _, w0⟩ := DataW.trod_int Tryz.underlying5 h0
    obtain ⟨e, g1, _, w1⟩ := DataW.trod_int Tryz.underlying5 h1
    obtain ⟨a, qs, cap, g2, k1, k2, k3⟩ := open_qs h2
    simp [Value.cells, show Tryz.prog.cellsOf 5 = 1 by kernel_rfl, show Tryz.prog.cellsOf 72 = 1 by kernel_rfl] at g0 g1 g2
    subst g0 g1 g2
    have b0 := bounds_u8 w0
    have b1 := bounds_u8 w1
    obtain ⟨n, rfl⟩ := Int.eq_ofNat_of_zero_le b0.1
    obtain ⟨e, rfl⟩ := Int.eq_ofNat_of_zero_le b1.1
    exact ⟨n, e, a, qs, cap, rfl, by omega, by omega, k1, k2, k3⟩
end
end Gus
end
section
/- Proved: whatever the two matrices, the flag, the position and the value, gussetlaw16.SparsesSame returns true, and the arguments read as before. Conditions: the three listed tables hold what the program's text lays (the card ties them). -/
namespace Go.Proofs.YtjiobckoldnonaaGreatDoor
open Go Go.RowKit Go.ChangeShapes Go.WideShapes Go.ChangeAt Gus
namespace Sam
theorem params_ok : ∀ t ∈ Tryz.f4.params.toList, Tryz.prog.readableRec t = true ∧ t < Tryz.prog.types.size := by
  rw [Tryz.params4]
  intro t ht
  simp only [List.mem_cons, List.not_mem_nil, or_false] at ht
  rcases ht with rfl | rfl | rfl | rfl | rfl <;> exact ⟨by kernel_rfl, of_decide_eq_true (by kernel_rfl)⟩
set_option maxRecDepth 100000 in
theorem contract (H : Type) (enc : TypeId × Value → H) (W : World) (base : Nat) (args : Array Value) (ds gs : List (DataW H)) (before : List MemPlace)
    (hval : ∀ (j : Nat) t v, Tryz.f4.params[j]? = some t → args[j]? = some v → Value.okWide Tryz.prog W .any base t v)
    (hW : DataW.Whole enc Tryz.prog Tryz.f4.params.toList Rows.sparsesSameSpec.vars false W args.toList ds gs before) :
    Calls Tryz.prog 4 args W fun e W' => ∃ v, e = .returned v ∧ Rows.sparsesSameSpec.post enc Tryz.prog Tryz.f4 false true false false W args v W' := by
  have hW' := hW
  have hlt := hW.lt
  obtain ⟨p, q, hA0, hV, rfl, hfz, hnd⟩ := hW
  have hA1 : DataW.TrodAll enc Tryz.prog W 0 (fun _ => true) true Tryz.f4.params.toList args.toList ds p := hA0
  have hA := hA1
  rw [Tryz.params4] at hA hval
  obtain ⟨v0, vs0, d0, ds0, p0, q0, hargs, rfl, rfl, h0, r0⟩ := trodAll_cons hA
  obtain ⟨v1, vs1, d1, ds1, p1, q1, rfl, rfl, rfl, h1, r1⟩ := trodAll_cons r0
  obtain ⟨v2, vs2, d2, ds2, p2, q2, rfl, rfl, rfl, h2, r2⟩ := trodAll_cons r1
  obtain ⟨v3, vs3, d3, ds3, p3, q3, rfl, rfl, rfl, h3, r3⟩ := trodAll_cons r2
  obtain ⟨v4, vs4, d4, ds4, p4, q4, rfl, rfl, rfl, h4, r4⟩ := trodAll_cons r3
  obtain ⟨rfl, rfl, rfl⟩ := trodAll_nil r4
  obtain rfl : args = #[v0, v1, v2, v3, v4] := by cases args; simp_all
  obtain ⟨rfl, rfl⟩ := trodVars_none hV
  obtain ⟨R0, C0, a, qa, ca, rfl, hR0, hC0, hqa, hoa, hla⟩ := open_m (hval 0 74 v0 (by rfl) (by rfl)) h0
  obtain ⟨R1, C1, b, qb, cb, rfl, hR1, hC1, hqb, hob, hlb⟩ := open_m (hval 1 74 v1 (by rfl) (by rfl)) h1
  obtain ⟨cp, rfl, _⟩ := open_bool Tryz.underlying4 (hval 2 4 v2 (by rfl) (by rfl)) h2
  obtain ⟨at0, rfl, _, _, w3⟩ := open_int Tryz.underlying5 (hval 3 5 v3 (by rfl) (by rfl)) h3
  obtain ⟨vn, vd, rfl, hv0, hv1, hv2, hv3⟩ := open_q (hval 4 35 v4 (by rfl) (by rfl)) h4
  have b3 := bounds_u8 w3
  obtain ⟨at0, rfl⟩ := Int.eq_ofNat_of_zero_le b3.1
  refine (same_all W R0 C0 R1 C1 hR0 hC0 hR1 hC1 a b ca cb at0 (by omega) qa qb hqa hqb hoa hob hla hlb cp vn vd hv0 hv1 hv2 hv3).mono fun e W' ⟨he, hb⟩ => ?_
  subst he
  exact ⟨_, rfl, row_end (pv := []) hb hW' rfl (fun sp hsp => args_stay hb params_ok hA1 (fun x hx => hlt x (List.mem_append.2 (.inl hx))) (fun x hx => hsp x (List.mem_append.2 (.inl hx)))) (fun _ _ => rfl)
    (fun _ _ _ => trodAll_cons_mk (shut_bool Tryz.underlying4 _) trodAll_mk0) (ok_one (by kernel_rfl) rfl (okWide_bool_mk Tryz.underlying4 _))⟩
abbrev input : Array Value := #[.agg #[.int .u8 0, .int .u8 0, .slice none 0 0], .agg #[.int .u8 0, .int .u8 0, .slice none 0 0], .bool false, .int .u8 0, .agg #[.int .i64 0, .int .u32 0]]
theorem laid_met (os : Os) : laidMet Tryz.prog Rows.sparsesSameRow.laid ((laidW os).forCall (fun _ _ => 0) ⟨#[], input, []⟩).memory :=
  laidMet_of_run' 8 (by kernel_rfl) (by kernel_rfl)
theorem reads (os : Os) {H : Type} (enc : TypeId × Value → H) : ∃ places, DataW.whole enc Tryz.prog ((laidW os).forCall (fun _ _ => 0) ⟨#[], input, []⟩).memory Tryz.f4.params.toList Rows.sparsesSameSpec.vars false input.toList 8 = some ([.agg [.lit (.int .u8 0), .lit (.int .u8 0), .nil], .agg [.lit (.int .u8 0), .lit (.int .u8 0), .nil], .lit (.bool false), .lit (.int .u8 0), .agg [.lit (.int .i64 0), .lit (.int .u32 0)]], [], places) :=
  ⟨[], by kernel_rfl⟩
set_option maxRecDepth 100000 in
theorem lifted (os : Os) (started : os.Started) (H : Type) (enc : TypeId × Value → H) (F : Stop.Interp) :
    ReturnsInHanded {} Tryz.checked os 4 .any ((OpenSpec.ofChange Rows.sparsesSameSpec).preRow enc Tryz.prog Tryz.f4 Rows.sparsesSameRow.domain false Rows.sparsesSameRow.laid) (((OpenSpec.ofChange Rows.sparsesSameSpec).at F).post enc Tryz.prog Tryz.f4 false true false false) := by
  obtain ⟨places, hx⟩ := reads os enc
  refine returnsInHanded_of_row (C := Tryz.checked) (s := OpenSpec.ofChange Rows.sparsesSameSpec) ownK started (by kernel_rfl) Tryz.func4
    (witness_row_at (enc := enc) (C := Tryz.checked) false (laidW os) input rfl (by kernel_rfl) (by kernel_rfl) (by kernel_rfl)
      (OpenSpec.preRow_of_cond 8 hx (by kernel_rfl) (fun k hk => by cases hk) (by kernel_rfl) (laid_met os))) ?_
  intro W base args ds gs before hval hW _ _ _ _ _ _
  exact contract H enc W base args ds gs before hval hW
theorem said : Rows.SparsesSameSaid :=
  OpenClaim.holds_of_cond 4 Tryz.f4 rfl rfl rfl rfl rfl rfl rfl ⟨rfl, rfl, rfl, rfl, rfl⟩ rfl rfl rfl rfl rfl (by kernel_rfl) Tryz.func4 (by kernel_rfl)
    (of_decide_eq_true (by kernel_rfl)) (by unfold Func.isWrapper; first | (rw [if_pos (by decide +kernel)]; kernel_rfl) | (rw [if_neg (by decide +kernel)]; exact ⟨rfl, rfl⟩))
    (fun os started H enc _ F => by rw [OpenClaim.pre_eq_preRow]; exact lifted os started H enc F)
theorem plain (f : FuncId) (fn : Func) (hf : Tryz.pinned.checked.prog.funcNamed "gusset/gussetlaw16.SparsesSame" = some f) (hfn : Tryz.pinned.checked.prog.funcs[f]? = some fn) :
    false = Tryz.pinned.checked.prog.looks [] ∧ ∀ (j : Nat) t, fn.params[j]? = some t → Tryz.pinned.checked.prog.wantsStandIn t = false := by
  obtain rfl : f = 4 := Option.some.inj ((show Tryz.prog.funcNamed "gusset/gussetlaw16.SparsesSame" = some 4 by kernel_rfl).symm.trans hf) |>.symm
  obtain rfl : fn = Tryz.f4 := (Option.some.inj (Tryz.func4.symm.trans hfn)).symm
  refine ⟨by kernel_rfl, fun j t ht => ?_⟩
  have hm := Array.mem_of_getElem? ht
  rw [Tryz.params4] at hm
  simp only [List.mem_toArray, List.mem_cons, List.not_mem_nil, or_false] at hm
  rcases hm with rfl | rfl | rfl | rfl | rfl
  · exact (show Tryz.prog.wantsStandIn 74 = false by kernel_rfl)
  · exact (show Tryz.prog.wantsStandIn 74 = false by kernel_rfl)
  · exact (show Tryz.prog.wantsStandIn 4 = false by kernel_rfl)
  · exact (show Tryz.prog.wantsStandIn 5 = false by kernel_rfl)
  · exact (show Tryz.prog.wantsStandIn 35 = false by kernel_rfl)
end Sam
/-- the card -/
theorem same_card : Rows.SparsesSameCardSaid :=
  Claim7.holds_tied_plain_at .later [] _ _ _ _ Sam.said (fun _ h => by cases h) (by kernel_rfl) (fun _ h => by cases h) sparsesSame_row_tie rfl ⟨rfl, rfl⟩ (by kernel_rfl) rfl Sam.plain (by kernel_rfl)
end Go.Proofs.YtjiobckoldnonaaGreatDoor
end
