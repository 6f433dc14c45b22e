/- Proved here: parts of the proof: Mmu Vdt Sum Dot Mro Mpp Mfo Msy Pdn Sbl Ssc Smu Sad Sap Lvc Dlw. Conditions: those that each theorem states. -/
import Derived.Test.YtjiobckoldnonaaGreatDoorSameQ
import Derived.Handy
import Derived.Test.YtjiobckoldnonaaGreatDoorVecQ
section
/- mats.Mul. -/
namespace Gus
open Go Go.RowKit Go.Proofs
def sumTo (F : Nat → Rat) : Nat → Rat
  | 0 => 0
  | n + 1 => sumTo F n + F n
theorem sumTo_szk {F : Nat → Rat} {j : Nat} (h : ∀ t, SzK j (F t)) : ∀ n, SzK (1 + n * (j + 1)) (sumTo F n)
  | 0 => by rw [Nat.zero_mul]; exact SzK.zero
  | n + 1 => by
    have := (sumTo_szk h n).add (h n)
    rw [show 1 + (n + 1) * (j + 1) = 1 + n * (j + 1) + j + 1 by rw [Nat.add_mul]; omega]
    exact this
set_option maxRecDepth 100000 in
set_option maxHeartbeats 4000000 in
theorem mmul1_any {j l : Nat} (W : World) (ba bb r c c' n k n' k' i m : Nat) (a a' : Option Addr) (qs ps : List Rat) (hA : Bx W ba 78 [.int .i64 r, .int .i64 c, .slice a n k]) (hB : Bx W bb 78 [.int .i64 c, .int .i64 c', .slice a' n' k'])
    (ha : MatAt W (.agg #[.int .i64 r, .int .i64 c, .slice a n k]) r c qs) (hb : MatAt W (.agg #[.int .i64 c, .int .i64 c', .slice a' n' k']) c c' ps) (hi : i < r) (hm : m < c') (hr : r ≤ 2048) (hc : c ≤ 2048) (hc' : c' ≤ 2048) (hq : ∀ i, SzK j (qs.getD i 0)) (hp : ∀ i, SzK l (ps.getD i 0)) (hcap : 1 + c * (j + l + 1) < 17592186044416) :
    Calls Tryz.prog 107 #[.int .i64 i, .int .i64 m, .pointer (some ⟨ba, 0, none⟩), .pointer (some ⟨bb, 0, none⟩)] W fun e w' => e = .returned (fracV (sumTo (fun t => mvals c qs i t * mvals c' ps t m) c)) ∧ Below W.heap.size W w' := by
  have h1 := fun t W2 (ht : t < c) (hb : Below W.heap.size W W2) => mel_any W2 _ r c i t qs (ha.call hb) hi ht hr hc
  have h2 := fun t W2 (ht : t < c) (hb2 : Below W.heap.size W W2) => mel_any W2 _ c c' t m ps (hb.call hb2) ht hm hc hc'
  have HA0 := Lib.hid hA.lt
  have HB0 := Lib.hid hB.lt
  obtain ⟨F, hF⟩ : ∃ F, F = fun t => mvals c qs i t * mvals c' ps t m := ⟨_, rfl⟩
  rw [← hF]
  have hsz := sumTo_szk (F := F) (j := j + l) (fun t => by rw [hF]; exact (hq _).mul (hp _))
  have hjl : 0 < c → j + l + 1 ≤ c * (j + l + 1) := fun h => Nat.le_mul_of_pos_left _ h
  have h3 : ∀ t W2, t < c → Calls Tryz.prog 105 #[fracV (qs.getD (i * c + t) 0), fracV (ps.getD (t * c' + m) 0)] W2 fun e w' => e = .returned (fracV (F t)) ∧ Below W2.heap.size W2 w' := fun t W2 ht => by
    have := hjl (by omega)
    rw [hF]; exact fmul_any _ _ (hq _) (hp _) (by omega) W2
  have h4 : ∀ t W2, t < c → Calls Tryz.prog 66 #[fracV (sumTo F t), fracV (F t)] W2 fun e w' => e = .returned (fracV (sumTo F (t + 1))) ∧ Below W2.heap.size W2 w' := fun t W2 ht => by
    have h6 : (t + 1) * (j + l + 1) ≤ c * (j + l + 1) := Nat.mul_le_mul_right _ (by omega)
    rw [Nat.add_mul, Nat.one_mul] at h6
    exact fadd_any _ _ (hsz t) (show SzK (j + l) (F t) by rw [hF]; exact (hq _).mul (hp _)) (by omega) W2
  obtain ⟨Z, hZ⟩ : ∃ Z, Z = W.heap.size := ⟨_, rfl⟩
  have HX := Lib.hid hZ
  have H1 := Lib.hid h1
  have H2 := Lib.hid h2
  have H3 := Lib.hid h3
  have H4 := Lib.hid h4
  clear h1 h2 h3 h4 ha hb hsz hF hq hp hjl hcap
  go_enter Tryz.func107, Tryz.ntmps107
  go_upto_region 2 with fail
  have hin : In Z W ((W.alloc (.cells #[.int .u64 0, .string ⟨#[]⟩, .bool false, .int .u64 0, .string ⟨#[]⟩] 56)).alloc (.cells #[.int .u64 0, .string ⟨#[]⟩, .bool false, .int .u64 0, .string ⟨#[]⟩] 56)) := by rw [hZ]; exact ((In.self W).alloc _).alloc _
  have bq := (Bx.new_at W #[.int .u64 0, .string ⟨#[]⟩, .bool false, .int .u64 0, .string ⟨#[]⟩] 56 hZ).alloc (.cells #[.int .u64 0, .string ⟨#[]⟩, .bool false, .int .u64 0, .string ⟨#[]⟩] 56)
  have bs : Bx ((W.alloc (.cells #[.int .u64 0, .string ⟨#[]⟩, .bool false, .int .u64 0, .string ⟨#[]⟩] 56)).alloc (.cells #[.int .u64 0, .string ⟨#[]⟩, .bool false, .int .u64 0, .string ⟨#[]⟩] 56)) (Z + 1) 56 (fcs (sumTo F 0)) := Bx.new_at (W.alloc (.cells #[.int .u64 0, .string ⟨#[]⟩, .bool false, .int .u64 0, .string ⟨#[]⟩] 56)) #[.int .u64 0, .string ⟨#[]⟩, .bool false, .int .u64 0, .string ⟨#[]⟩] 56 (n := Z + 1) (by rw [World.size_alloc, hZ])
  replace hA := (hA.alloc (.cells #[.int .u64 0, .string ⟨#[]⟩, .bool false, .int .u64 0, .string ⟨#[]⟩] 56)).alloc (.cells #[.int .u64 0, .string ⟨#[]⟩, .bool false, .int .u64 0, .string ⟨#[]⟩] 56)
  replace hB := (hB.alloc (.cells #[.int .u64 0, .string ⟨#[]⟩, .bool false, .int .u64 0, .string ⟨#[]⟩] 56)).alloc (.cells #[.int .u64 0, .string ⟨#[]⟩, .bool false, .int .u64 0, .string ⟨#[]⟩] 56)
  have HBZ : Hid (ba < Z ∧ bb < Z) := Lib.hid (by rw [hZ]; exact ⟨HA0.out, HB0.out⟩)
  rw [← hZ]
  clear hZ
  generalize (W.alloc (.cells #[.int .u64 0, .string ⟨#[]⟩, .bool false, .int .u64 0, .string ⟨#[]⟩] 56)).alloc (.cells #[.int .u64 0, .string ⟨#[]⟩, .bool false, .int .u64 0, .string ⟨#[]⟩] 56) = W1 at *
  have x0 := hA.c0
  have x1 := hA.c1
  have x2 := hA.c2
  have xl := hA.lt
  go_wp2_with fail
  clear x0 x1 x2 xl
  go_loopw [12] (fun v12 wr => ∃ t : Nat, t ≤ c ∧ v12 = .int .i64 t ∧ In Z W wr ∧ Bx wr Z 56 [.int .u64 0, .string ⟨#[]⟩, .bool false, .int .u64 0, .string ⟨#[]⟩] ∧ Bx wr (Z + 1) 56 (fcs (sumTo F t)) ∧ Bx wr ba 78 [.int .i64 r, .int .i64 c, .slice a n k] ∧ Bx wr bb 78 [.int .i64 c, .int .i64 c', .slice a' n' k']) (fun v12 _ => c - (RowKit.intOf v12).toNat)
  case atStart => exact ⟨0, Nat.zero_le _, rfl, hin, bq, bs, hA, hB⟩
  case round =>
    clear hin bq bs hA hB
    obtain ⟨t, ht, rfl, hin, bq, bs, hA, hB⟩ := hrel
    obtain ⟨S1, S2, S3, S4, S5, hs1, hs2⟩ : ∃ A1 A2 A3 A4 A5, fracV (sumTo F t) = .agg #[.int .u64 A1, .string A2, .bool A3, .int .u64 A4, .string A5] ∧ fcs (sumTo F t) = [.int .u64 A1, .string A2, .bool A3, .int .u64 A4, .string A5] := ⟨_, _, _, _, _, rfl, rfl⟩
    rw [hs2] at bs
    by_cases htc : t < c
    · have htI : (t : Int) < c := by omega
      have ht0 : (0 : Int) ≤ t := by omega
      have htw : IntKind.i64.wrap ((t : Int) + 1) = ((t + 1 : Nat) : Int) := IntWalk.i64_in _ (by omega)
      have h1 := fun W2 (h : In wr.heap.size wr W2) => H1.out t W2 htc (by rw [← HX.out]; exact (hin.call h.bel).bel)
      have h2 := fun W2 (h : In wr.heap.size wr W2) => H2.out t W2 htc (by rw [← HX.out]; exact (hin.call h.bel).bel)
      have h3 := fun W2 => H3.out t W2 htc
      have h4 := fun W2 => H4.out t W2 htc
      rw [hs1] at h4
      obtain ⟨x, hx⟩ : ∃ x, x = qs.getD (i * c + t) 0 := ⟨_, rfl⟩
      obtain ⟨y, hy⟩ : ∃ y, y = ps.getD (t * c' + m) 0 := ⟨_, rfl⟩
      obtain ⟨z, hz⟩ : ∃ z, z = F t := ⟨_, rfl⟩
      obtain ⟨s2, hs⟩ : ∃ s, s = sumTo F (t + 1) := ⟨_, rfl⟩
      rw [← hx] at h1 h3
      rw [← hy] at h2 h3
      rw [← hz] at h3 h4
      rw [← hs] at h4
      have HS := Lib.hid hs
      have x0 := hA.c0
      have x1 := hA.c1
      have x2 := hA.c2
      have xl := hA.lt
      have y0 := hB.c0
      have y1 := hB.c1
      have y2 := hB.c2
      have yl := hB.lt
      have s0 := bs.c0
      have s1 := bs.c1
      have s2' := bs.c2
      have s3 := bs.c3
      have s4 := bs.c4
      have sl := bs.lt
      clear hx hy hz hs hs1 hs2
      go_upto_region 5 with fail
      have h := In.self wr
      have hcc := hc
      have hc := h.cell
      refine wp_region_flow 11 (by kernel_rfl) (by kernel_rfl) (fun _ _ d _ _ h => by cases d <;> exact h) ?_; simp only [List.take_succ_cons, List.take_zero, List.drop_succ_cons, List.drop_zero]; simp only [putAll, Act.put, List.setIfInBounds_toArray, List.set]; (try simp only [Nat.reduceAdd]); (try simp only [Nat.zero_add]); (repeat (first | ((with_reducible refine flow_float (v := ?_) ?_ ?_ ?_); rotate_left 1; (focus (with_reducible rfl)); (focus (intro u w1 hw hd w2; (try simp only [depH] at hd); (try simp only [ext] at hd); (try simp only [extU] at hd); (try simp only [Nat.reduceAdd] at hd); (try simp only [Nat.reduceEqDiff] at hd); (try simp only [reduceIte] at hd); (try simp only [if_true] at hd); (try simp only [if_false] at hd); (try simp only [and_true] at hd); (try simp only [true_and] at hd); go_simp; exact rfl))) | ((with_reducible refine flow_pure0 (v := ?_) ?_ ?_ ?_ ?_); rotate_left 1; (focus (with_reducible rfl)); (focus rfl); (focus (intro u w1 hw hd; (try simp only [depH] at hd); (try simp only [ext] at hd); (try simp only [extU] at hd); (try simp only [Nat.reduceAdd] at hd); (try simp only [Nat.reduceEqDiff] at hd); (try simp only [reduceIte] at hd); (try simp only [if_true] at hd); (try simp only [if_false] at hd); (try simp only [and_true] at hd); (try simp only [true_and] at hd); have hc' := hw.cell; go_simp; exact rfl))) | ((with_reducible refine flow_skipg (j := ?_) (b := ?_) ?_ ?_ ?_); rotate_left 2; (focus (with_reducible rfl)); (focus (intro u w1 hw hd; (try simp only [depH] at hd); (try simp only [ext] at hd); (try simp only [extU] at hd); (try simp only [Nat.reduceAdd] at hd); (try simp only [Nat.reduceEqDiff] at hd); (try simp only [reduceIte] at hd); (try simp only [if_true] at hd); (try simp only [if_false] at hd); (try simp only [and_true] at hd); (try simp only [true_and] at hd); simp [yielded, hd]; done))) | ((with_reducible refine flow_pureg (v := ?_) (j := ?_) (b := ?_) ?_ ?_ ?_ ?_); rotate_left 3; (focus (with_reducible rfl)); (focus (intro u w1 hw hd; (try simp only [depH] at hd); (try simp only [ext] at hd); (try simp only [extU] at hd); (try simp only [Nat.reduceAdd] at hd); (try simp only [Nat.reduceEqDiff] at hd); (try simp only [reduceIte] at hd); (try simp only [if_true] at hd); (try simp only [if_false] at hd); (try simp only [and_true] at hd); (try simp only [true_and] at hd); simp [yielded, hd]; done)); (focus (intro u w1 hw hd; (try simp only [depH] at hd); (try simp only [ext] at hd); (try simp only [extU] at hd); (try simp only [Nat.reduceAdd] at hd); (try simp only [Nat.reduceEqDiff] at hd); (try simp only [reduceIte] at hd); (try simp only [if_true] at hd); (try simp only [if_false] at hd); (try simp only [and_true] at hd); (try simp only [true_and] at hd); have hc' := hw.cell; go_simp; exact rfl))) | ((with_reducible refine flow_alloc (t := ?_) (zs := ?_) ?_ ?_ ?_ ?_); rotate_left 2; (focus (with_reducible rfl)); (focus rfl); (focus (intro u w1; go_simp; exact rfl))) | ((with_reducible refine flow_pure0 (v := ?_) ?_ ?_ ?_ ?_); rotate_left 1; (focus (with_reducible rfl)); (focus rfl); (focus (intro u w1 hw hd; (try simp only [depH] at hd); (try simp only [ext] at hd); (try simp only [extU] at hd); (try simp only [Nat.reduceAdd] at hd); (try simp only [Nat.reduceEqDiff] at hd); (try simp only [reduceIte] at hd); (try simp only [if_true] at hd); (try simp only [if_false] at hd); (try simp only [and_true] at hd); (try simp only [true_and] at hd); have hc' := hw.cell; go_simp; go_at_call 98; ((with_reducible refine (h1 _ hw.ins).mono ?_)); rintro e w'' ⟨rfl, hb⟩; refine ⟨?_, hb⟩; exact rfl))) | ((with_reducible refine flow_pureg (v := ?_) (j := ?_) (b := ?_) ?_ ?_ ?_ ?_); rotate_left 3; (focus (with_reducible rfl)); (focus (intro u w1 hw hd; (try simp only [depH] at hd); (try simp only [ext] at hd); (try simp only [extU] at hd); (try simp only [Nat.reduceAdd] at hd); (try simp only [Nat.reduceEqDiff] at hd); (try simp only [reduceIte] at hd); (try simp only [if_true] at hd); (try simp only [if_false] at hd); (try simp only [and_true] at hd); (try simp only [true_and] at hd); simp [yielded, hd]; done)); (focus (intro u w1 hw hd; (try simp only [depH] at hd); (try simp only [ext] at hd); (try simp only [extU] at hd); (try simp only [Nat.reduceAdd] at hd); (try simp only [Nat.reduceEqDiff] at hd); (try simp only [reduceIte] at hd); (try simp only [if_true] at hd); (try simp only [if_false] at hd); (try simp only [and_true] at hd); (try simp only [true_and] at hd); have hc' := hw.cell; go_simp; go_at_call 98; ((with_reducible refine (h1 _ hw.ins).mono ?_)); rintro e w'' ⟨rfl, hb⟩; refine ⟨?_, hb⟩; exact rfl))) | ((with_reducible refine flow_pure0 (v := ?_) ?_ ?_ ?_ ?_); rotate_left 1; (focus (with_reducible rfl)); (focus rfl); (focus (intro u w1 hw hd; (try simp only [depH] at hd); (try simp only [ext] at hd); (try simp only [extU] at hd); (try simp only [Nat.reduceAdd] at hd); (try simp only [Nat.reduceEqDiff] at hd); (try simp only [reduceIte] at hd); (try simp only [if_true] at hd); (try simp only [if_false] at hd); (try simp only [and_true] at hd); (try simp only [true_and] at hd); have hc' := hw.cell; go_simp; go_at_call 98; ((with_reducible refine (h2 _ hw.ins).mono ?_)); rintro e w'' ⟨rfl, hb⟩; refine ⟨?_, hb⟩; exact rfl))) | ((with_reducible refine flow_pureg (v := ?_) (j := ?_) (b := ?_) ?_ ?_ ?_ ?_); rotate_left 3; (focus (with_reducible rfl)); (focus (intro u w1 hw hd; (try simp only [depH] at hd); (try simp only [ext] at hd); (try simp only [extU] at hd); (try simp only [Nat.reduceAdd] at hd); (try simp only [Nat.reduceEqDiff] at hd); (try simp only [reduceIte] at hd); (try simp only [if_true] at hd); (try simp only [if_false] at hd); (try simp only [and_true] at hd); (try simp only [true_and] at hd); simp [yielded, hd]; done)); (focus (intro u w1 hw hd; (try simp only [depH] at hd); (try simp only [ext] at hd); (try simp only [extU] at hd); (try simp only [Nat.reduceAdd] at hd); (try simp only [Nat.reduceEqDiff] at hd); (try simp only [reduceIte] at hd); (try simp only [if_true] at hd); (try simp only [if_false] at hd); (try simp only [and_true] at hd); (try simp only [true_and] at hd); have hc' := hw.cell; go_simp; go_at_call 98; ((with_reducible refine (h2 _ hw.ins).mono ?_)); rintro e w'' ⟨rfl, hb⟩; refine ⟨?_, hb⟩; exact rfl))) | ((with_reducible refine flow_pure0 (v := ?_) ?_ ?_ ?_ ?_); rotate_left 1; (focus (with_reducible rfl)); (focus rfl); (focus (intro u w1 hw hd; (try simp only [depH] at hd); (try simp only [ext] at hd); (try simp only [extU] at hd); (try simp only [Nat.reduceAdd] at hd); (try simp only [Nat.reduceEqDiff] at hd); (try simp only [reduceIte] at hd); (try simp only [if_true] at hd); (try simp only [if_false] at hd); (try simp only [and_true] at hd); (try simp only [true_and] at hd); have hc' := hw.cell; go_simp; go_at_call 105; ((with_reducible refine (h3 _).mono ?_)); rintro e w'' ⟨rfl, hb⟩; refine ⟨?_, hb⟩; exact rfl))) | ((with_reducible refine flow_pureg (v := ?_) (j := ?_) (b := ?_) ?_ ?_ ?_ ?_); rotate_left 3; (focus (with_reducible rfl)); (focus (intro u w1 hw hd; (try simp only [depH] at hd); (try simp only [ext] at hd); (try simp only [extU] at hd); (try simp only [Nat.reduceAdd] at hd); (try simp only [Nat.reduceEqDiff] at hd); (try simp only [reduceIte] at hd); (try simp only [if_true] at hd); (try simp only [if_false] at hd); (try simp only [and_true] at hd); (try simp only [true_and] at hd); simp [yielded, hd]; done)); (focus (intro u w1 hw hd; (try simp only [depH] at hd); (try simp only [ext] at hd); (try simp only [extU] at hd); (try simp only [Nat.reduceAdd] at hd); (try simp only [Nat.reduceEqDiff] at hd); (try simp only [reduceIte] at hd); (try simp only [if_true] at hd); (try simp only [if_false] at hd); (try simp only [and_true] at hd); (try simp only [true_and] at hd); have hc' := hw.cell; go_simp; go_at_call 105; ((with_reducible refine (h3 _).mono ?_)); rintro e w'' ⟨rfl, hb⟩; refine ⟨?_, hb⟩; exact rfl))) | ((with_reducible refine flow_pure0 (v := ?_) ?_ ?_ ?_ ?_); rotate_left 1; (focus (with_reducible rfl)); (focus rfl); (focus (intro u w1 hw hd; (try simp only [depH] at hd); (try simp only [ext] at hd); (try simp only [extU] at hd); (try simp only [Nat.reduceAdd] at hd); (try simp only [Nat.reduceEqDiff] at hd); (try simp only [reduceIte] at hd); (try simp only [if_true] at hd); (try simp only [if_false] at hd); (try simp only [and_true] at hd); (try simp only [true_and] at hd); have hc' := hw.cell; go_simp; go_at_call 66; ((with_reducible refine (h4 _).mono ?_)); rintro e w'' ⟨rfl, hb⟩; refine ⟨?_, hb⟩; exact rfl))) | ((with_reducible refine flow_pureg (v := ?_) (j := ?_) (b := ?_) ?_ ?_ ?_ ?_); rotate_left 3; (focus (with_reducible rfl)); (focus (intro u w1 hw hd; (try simp only [depH] at hd); (try simp only [ext] at hd); (try simp only [extU] at hd); (try simp only [Nat.reduceAdd] at hd); (try simp only [Nat.reduceEqDiff] at hd); (try simp only [reduceIte] at hd); (try simp only [if_true] at hd); (try simp only [if_false] at hd); (try simp only [and_true] at hd); (try simp only [true_and] at hd); simp [yielded, hd]; done)); (focus (intro u w1 hw hd; (try simp only [depH] at hd); (try simp only [ext] at hd); (try simp only [extU] at hd); (try simp only [Nat.reduceAdd] at hd); (try simp only [Nat.reduceEqDiff] at hd); (try simp only [reduceIte] at hd); (try simp only [if_true] at hd); (try simp only [if_false] at hd); (try simp only [and_true] at hd); (try simp only [true_and] at hd); have hc' := hw.cell; go_simp; go_at_call 66; ((with_reducible refine (h4 _).mono ?_)); rintro e w'' ⟨rfl, hb⟩; refine ⟨?_, hb⟩; exact rfl)))))
      (try clear hc hf h); intro u w' h ha hdi; replace h := h.ins; (try simp only [World.size_alloc] at h); (try dsimp only at ha); (repeat rw [World.size_alloc] at ha); (try simp only [allH] at ha); (try simp only [ext] at ha); (try simp only [extU] at ha); (try simp only [Nat.reduceAdd] at ha); (try simp only [Nat.reduceEqDiff] at ha); (try simp only [reduceIte] at ha); (try simp only [if_true] at ha); (try simp only [if_false] at ha); (try simp only [and_true] at ha); (try simp only [true_and] at ha); have hc := h.cell; have hf := h.frozen
      (try obtain ha := ha); (try dsimp only);  simp only [ha]; clear ha hdi 
      obtain ⟨N1, N2, N3, N4, N5, hn1, hn2⟩ : ∃ A1 A2 A3 A4 A5, fracV s2 = .agg #[.int .u64 A1, .string A2, .bool A3, .int .u64 A4, .string A5] ∧ fcs s2 = [.int .u64 A1, .string A2, .bool A3, .int .u64 A4, .string A5] := ⟨_, _, _, _, _, rfl, rfl⟩
      rw [hn1]
      have hin3 := hin.call h.bel
      have bq3 := bq.call h.bel
      have bs3 := bs.call h.bel
      have hA3 := hA.call h.bel
      have hB3 := hB.call h.bel
      have hab := HBZ.out
      have f0 := bs3.frozen 0
      have f1 := bs3.frozen 1
      have f2 := bs3.frozen 2
      have f3 := bs3.frozen 3
      have f4 := bs3.frozen 4
      have g0 := bs3.c0
      have g1 := bs3.c1
      have g2 := bs3.c2
      have g3 := bs3.c3
      have g4 := bs3.c4
      have gl := bs3.lt
      have K1 := Lib.hid (((((bs3.set 0 (.int .u64 N1)).set 1 (.string N2)).set 2 (.bool N3)).set 3 (.int .u64 N4)).set 4 (.string N5))
      have K2 := Lib.hid ((((((bq3.other (a := ⟨Z + 1, 0, none⟩) (by simp) (.int .u64 N1)).other (a := ⟨Z + 1, 1, none⟩) (by simp) (.string N2)).other (a := ⟨Z + 1, 2, none⟩) (by simp) (.bool N3)).other (a := ⟨Z + 1, 3, none⟩) (by simp) (.int .u64 N4)).other (a := ⟨Z + 1, 4, none⟩) (by simp) (.string N5)))
      have K3 := Lib.hid ((((((hA3.other (a := ⟨Z + 1, 0, none⟩) (by simp; omega) (.int .u64 N1)).other (a := ⟨Z + 1, 1, none⟩) (by simp; omega) (.string N2)).other (a := ⟨Z + 1, 2, none⟩) (by simp; omega) (.bool N3)).other (a := ⟨Z + 1, 3, none⟩) (by simp; omega) (.int .u64 N4)).other (a := ⟨Z + 1, 4, none⟩) (by simp; omega) (.string N5)))
      have K4 := Lib.hid ((((((hB3.other (a := ⟨Z + 1, 0, none⟩) (by simp; omega) (.int .u64 N1)).other (a := ⟨Z + 1, 1, none⟩) (by simp; omega) (.string N2)).other (a := ⟨Z + 1, 2, none⟩) (by simp; omega) (.bool N3)).other (a := ⟨Z + 1, 3, none⟩) (by simp; omega) (.int .u64 N4)).other (a := ⟨Z + 1, 4, none⟩) (by simp; omega) (.string N5)))
      have K5 := Lib.hid (((((hin3.setCell (p := ⟨Z + 1, 0, none⟩) (by simp) (.int .u64 N1)).setCell (p := ⟨Z + 1, 1, none⟩) (by simp) (.string N2)).setCell (p := ⟨Z + 1, 2, none⟩) (by simp) (.bool N3)).setCell (p := ⟨Z + 1, 3, none⟩) (by simp) (.int .u64 N4)).setCell (p := ⟨Z + 1, 4, none⟩) (by simp) (.string N5))
      have HN := Lib.hid hn2
      clear h hc hf hin bq bs hA hB hin3 bq3 bs3 hA3 hB3 h1 h2 h3 h4 x0 x1 x2 xl y0 y1 y2 yl s0 s1 s2' s3 s4 sl hn1 hn2
      go_wp2_with fail
      exact ⟨⟨t + 1, by omega, by go_num, K5.out, K2.out, by rw [← HS.out, HN.out]; exact K1.out, K3.out, K4.out⟩, by simp [RowKit.intOf]; omega⟩
    · obtain rfl : t = c := by omega
      have htI : ¬ (t : Int) < t := by omega
      have s0 := bs.c0
      have s1 := bs.c1
      have s2 := bs.c2
      have s3 := bs.c3
      have s4 := bs.c4
      have sl := bs.lt
      have q0 := bq.c0
      have q1 := bq.c1
      have q2 := bq.c2
      have q3 := bq.c3
      have q4 := bq.c4
      have f0 := bq.frozen 0
      have f1 := bq.frozen 1
      have f2 := bq.frozen 2
      have f3 := bq.frozen 3
      have f4 := bq.frozen 4
      have ql := bq.lt
      have K1 := Lib.hid (((((bq.set 0 (.int .u64 S1)).set 1 (.string S2)).set 2 (.bool S3)).set 3 (.int .u64 S4)).set 4 (.string S5))
      have K2 := Lib.hid (((((hin.setCell (p := ⟨Z, 0, none⟩) (Nat.le_refl _) (.int .u64 S1)).setCell (p := ⟨Z, 1, none⟩) (Nat.le_refl _) (.string S2)).setCell (p := ⟨Z, 2, none⟩) (Nat.le_refl _) (.bool S3)).setCell (p := ⟨Z, 3, none⟩) (Nat.le_refl _) (.int .u64 S4)).setCell (p := ⟨Z, 4, none⟩) (Nat.le_refl _) (.string S5))
      have HS1 := Lib.hid hs1
      clear hin bq bs hA hB hs1 hs2
      go_wp2_with fail
      have k1 := K1.out
      have k2 := K2.out
      clear K1 K2 s0 s1 s2 s3 s4 sl q0 q1 q2 q3 q4 f0 f1 f2 f3 f4 ql
      generalize ((((wr.setCell ⟨Z, 0, none⟩ (.int .u64 S1)).setCell ⟨Z, 1, none⟩ (.string S2)).setCell ⟨Z, 2, none⟩ (.bool S3)).setCell ⟨Z, 3, none⟩ (.int .u64 S4)).setCell ⟨Z, 4, none⟩ (.string S5) = W5 at *
      have e0 : W5.cell? ⟨Z, 0, none⟩ = some (.int .u64 S1) := k1.cell 0
      have e1 : W5.cell? ⟨Z, 1, none⟩ = some (.string S2) := k1.cell 1
      have e2 : W5.cell? ⟨Z, 2, none⟩ = some (.bool S3) := k1.cell 2
      have e3 : W5.cell? ⟨Z, 3, none⟩ = some (.int .u64 S4) := k1.cell 3
      have e4 : W5.cell? ⟨Z, 4, none⟩ = some (.string S5) := k1.cell 4
      refine bodyPost_ret (v := .agg #[.int .u64 S1, .string S2, .bool S3, .int .u64 S4, .string S5]) ?_ rfl ⟨by rw [HS1.out], by rw [← HX.out]; exact k2.bel⟩
      simp [results, Tryz.results107, go_sem, e0, e1, e2, e3, e4]
/-- the product's elements -/
def mulF (c : Nat) (f g : Nat → Nat → Rat) (i k : Nat) : Rat := sumTo (fun t => f i t * g t k) c
set_option maxRecDepth 100000 in
set_option maxHeartbeats 4000000 in
theorem mmul_any {j l : Nat} (w : World) (x y : Value) (r c r' c' : Nat) (qs ps : List Rat) (hx : MatAt w x r c qs) (hy : MatAt w y r' c' ps) (hr : r ≤ 2048) (hc : c ≤ 2048) (hr' : r' ≤ 2048) (hc' : c' ≤ 2048) (hq : ∀ i, SzK j (qs.getD i 0)) (hp : ∀ i, SzK l (ps.getD i 0)) (hcap : 1 + c * (j + l + 1) < 17592186044416) :
    Calls Tryz.prog 47 #[x, y] w fun e w' => (∃ d e', e = .returned (.tuple #[d, .int .i64 e']) ∧ DRes (!decide (c = r')) r c' (mulF c (mvals c qs) (mvals c' ps)) w' d e') ∧ Below w.heap.size w w' := by
  have k1 : checkM (r : Int) c qs.length = 0 := by rw [hx.len2]; exact checkM_ok hr hc
  have k2 : checkM (r' : Int) c' ps.length = 0 := by rw [hy.len2]; exact checkM_ok hr' hc'
  have HX0 := Lib.hid hx
  have HY0 := Lib.hid hy
  obtain ⟨a, k, rfl⟩ := hx.shape
  obtain ⟨a', k', rfl⟩ := hy.shape
  have c1 := fun W b h => mall_two W b r c r' c' qs.length k ps.length k' a a' h k1 k2
  obtain ⟨n, hn⟩ : ∃ n, n = qs.length := ⟨_, rfl⟩
  obtain ⟨n', hn'⟩ : ∃ n, n = ps.length := ⟨_, rfl⟩
  rw [← hn, ← hn'] at c1
  rw [← hn] at HX0 ⊢
  rw [← hn'] at HY0 ⊢
  have eg1 : ∀ args w, (callFunc 107 args).run Tryz.prog w = .ok (.enter 107 args) w := enters_of Tryz.func107 (by kernel_rfl) rfl
  obtain ⟨X, hX⟩ : ∃ X, X = w.heap.size := ⟨_, rfl⟩
  have HX := Lib.hid hX
  have HQ := Lib.hid hq
  have HP := Lib.hid hp
  have HCP := Lib.hid hcap
  clear k1 k2 hn hn' hx hy hq hp hcap
  go_enter Tryz.func47, Tryz.ntmps47
  go_wp2_with fail
  ((with_reducible refine (c1 _ _ ?_).mono ?_))
  · exact Bx.new_at _ _ _ (by simp)
  rintro e w2 ⟨rfl, hb⟩
  have hin := (((((In.self w).alloc (.cells #[.int .i64 r, .int .i64 c, .slice a n k] 78)).alloc (.cells #[.int .i64 r', .int .i64 c', .slice a' n' k'] 78)).alloc (.cells #[.int .i64 0, .int .i64 0, .slice none 0 0] 78)).alloc (.cells #[.int .i64 r, .int .i64 c, .slice a n k, .int .i64 r', .int .i64 c', .slice a' n' k'] 78)).call hb
  have bx := ((((Bx.new_at w #[.int .i64 r, .int .i64 c, .slice a n k] 78 hX).alloc (.cells #[.int .i64 r', .int .i64 c', .slice a' n' k'] 78)).alloc (.cells #[.int .i64 0, .int .i64 0, .slice none 0 0] 78)).alloc (.cells #[.int .i64 r, .int .i64 c, .slice a n k, .int .i64 r', .int .i64 c', .slice a' n' k'] 78)).call hb
  have by_ := (((Bx.new_at (w.alloc (.cells #[.int .i64 r, .int .i64 c, .slice a n k] 78)) #[.int .i64 r', .int .i64 c', .slice a' n' k'] 78 (n := X + 1) (by rw [World.size_alloc, hX])).alloc (.cells #[.int .i64 0, .int .i64 0, .slice none 0 0] 78)).alloc (.cells #[.int .i64 r, .int .i64 c, .slice a n k, .int .i64 r', .int .i64 c', .slice a' n' k'] 78)).call hb
  have bq := ((Bx.new_at ((w.alloc (.cells #[.int .i64 r, .int .i64 c, .slice a n k] 78)).alloc (.cells #[.int .i64 r', .int .i64 c', .slice a' n' k'] 78)) #[.int .i64 0, .int .i64 0, .slice none 0 0] 78 (n := X + 1 + 1) (by rw [World.size_alloc, World.size_alloc, hX])).alloc (.cells #[.int .i64 r, .int .i64 c, .slice a n k, .int .i64 r', .int .i64 c', .slice a' n' k'] 78)).call hb
  rw [← hX]
  clear hX hb c1
  have x0 := bx.c0
  have x1 := bx.c1
  have xl := bx.lt
  have y0 := by_.c0
  have y1 := by_.c1
  have yl := by_.lt
  by_cases he : c = r'
  · subst he
    have hmk := make_any (mulF c (mvals c qs) (mvals c' ps)) w2 r c' 107 #[.pointer (some ⟨X, 0, none⟩), .pointer (some ⟨X + 1, 0, none⟩)] eg1 hr hc' (fun i t W hi ht h =>
      mmul1_any W X (X + 1) r c c' n k n' k' i t a a' qs ps (bx.call h.bel) (by_.call h.bel) (HX0.out.call (hin.call h.bel).bel) (HY0.out.call (hin.call h.bel).bel) hi ht hr hc hc' HQ.out HP.out HCP.out)
    go_wp2_with fail
    ((with_reducible refine hmk.mono ?_))
    rintro e w6 ⟨⟨d, rfl, hd⟩, hb⟩
    replace hin := hin.call hb
    replace bq := bq.call hb
    obtain ⟨ad, kd, rfl⟩ := hd.shape
    rw [dense_length] at hd ⊢
    obtain ⟨m, hm⟩ : ∃ m, m = r * c' := ⟨_, rfl⟩
    rw [← hm] at hd ⊢
    clear hb hmk x0 x1 xl y0 y1 yl hm bx by_
    ((have K5 := Lib.hid (hd.put3 (p' := ((r : Nat) : Int)) (q' := ((c' : Nat) : Int)) (ao' := ad) (n' := m) (k' := kd) bq));
              (have r0 := bq.c0);
              (have r1 := bq.c1);
              (have r2 := bq.c2);
              (have f0 := bq.frozen 0);
              (have f1 := bq.frozen 1);
              (have f2 := bq.frozen 2);
              (have ql := bq.lt);
              (have K1 := Lib.hid (((bq.set 0 (.int .i64 ((r : Nat) : Int))).set 1 (.int .i64 ((c' : Nat) : Int))).set 2 (.slice ad m kd)));
              (have K2 := Lib.hid (((hin.setCell (p := ⟨(X + 1 + 1), 0, none⟩) (by have := HX.out; simp; omega) (.int .i64 ((r : Nat) : Int))).setCell (p := ⟨(X + 1 + 1), 1, none⟩) (by have := HX.out; simp; omega) (.int .i64 ((c' : Nat) : Int))).setCell (p := ⟨(X + 1 + 1), 2, none⟩) (by have := HX.out; simp; omega) (.slice ad m kd)));
              (clear bq hin hd);
              (go_wp2_with fail);
              (have k1 := K1.out);
              (have k2 := K2.out);
              (have hm := K5.out);
              (clear r0 r1 r2 f0 f1 f2 ql K1 K2 K5);
              (generalize (((w6.setCell ⟨(X + 1 + 1), 0, none⟩ (.int .i64 ((r : Nat) : Int))).setCell ⟨(X + 1 + 1), 1, none⟩ (.int .i64 ((c' : Nat) : Int))).setCell ⟨(X + 1 + 1), 2, none⟩ (.slice ad m kd)) = W9 at *);
              (have e0 : W9.cell? ⟨(X + 1 + 1), 0, none⟩ = some (.int .i64 ((r : Nat) : Int)) := k1.cell 0);
              (have e1 : W9.cell? ⟨(X + 1 + 1), 1, none⟩ = some (.int .i64 ((c' : Nat) : Int)) := k1.cell 1);
              (have e2 : W9.cell? ⟨(X + 1 + 1), 2, none⟩ = some (.slice ad m kd) := k1.cell 2);
              (have hz := k2.bel);
              (refine bodyPost_ret (v := .tuple #[.agg #[.int .i64 ((r : Nat) : Int), .int .i64 ((c' : Nat) : Int), .slice ad m kd], .int .i64 0]) ?_ rfl ⟨⟨_, _, rfl, ⟨_, _, _, _, _, rfl⟩, .inr ⟨by simp, rfl, hm⟩⟩, hz⟩);
              (simp [results, Tryz.results47, go_sem, e0, e1, e2]))
  · have HSD : Hid ((!decide (c = r')) = true) := Lib.hid (by simp [he])
    have h3 : ((c : Int) != r') = true := by
      have : ¬ (c : Int) = r' := by omega
      simpa using this
    clear he
    ((have r0 := bq.c0);
              (have r1 := bq.c1);
              (have r2 := bq.c2);
              (have f0 := bq.frozen 0);
              (have f1 := bq.frozen 1);
              (have f2 := bq.frozen 2);
              (have hrl := bq.lt);
              (have H1 := Lib.hid (((bq.set 0 (.int .i64 0)).set 1 (.int .i64 0)).set 2 (.slice none 0 0)));
              (have H2 := Lib.hid (((hin.setCell (p := ⟨(X + 1 + 1), 0, none⟩) (by have := HX.out; simp; omega) (.int .i64 0)).setCell (p := ⟨(X + 1 + 1), 1, none⟩) (by have := HX.out; simp; omega) (.int .i64 0)).setCell (p := ⟨(X + 1 + 1), 2, none⟩) (by have := HX.out; simp; omega) (.slice none 0 0)));
              (clear bq hin bx);
              (go_wp2_with fail);
              (have g1 := H1.out);
              (have g2 := H2.out);
              (clear H1 H2 r0 r1 r2 f0 f1 f2 hrl);
              (generalize ((w2.setCell ⟨(X + 1 + 1), 0, none⟩ (.int .i64 0)).setCell ⟨(X + 1 + 1), 1, none⟩ (.int .i64 0)).setCell ⟨(X + 1 + 1), 2, none⟩ (.slice none 0 0) = W5 at *);
              (have e0 : W5.cell? ⟨(X + 1 + 1), 0, none⟩ = some (.int .i64 0) := g1.cell 0);
              (have e1 : W5.cell? ⟨(X + 1 + 1), 1, none⟩ = some (.int .i64 0) := g1.cell 1);
              (have e2 : W5.cell? ⟨(X + 1 + 1), 2, none⟩ = some (.slice none 0 0) := g1.cell 2);
              (have hz := g2.bel);
              (refine bodyPost_ret (v := .tuple #[zeroSp, .int .i64 1]) ?_ rfl ⟨⟨_, _, rfl, ⟨_, _, _, _, _, rfl⟩, .inl ⟨HSD.out, rfl, rfl⟩⟩, hz⟩);
              (simp [results, Tryz.results47, go_sem, e0, e1, e2]))
end Gus
end
section
/- vecs.alike, mats.short, vecs.each, fracs.Sum, vecs.Dot. -/
namespace Gus
open Go Go.RowKit Go.Proofs
set_option maxRecDepth 100000 in
set_option maxHeartbeats 2000000 in
theorem alike_two (w : World) (b n n' k k' : Nat) (T : TypeId) (a a' : Option Addr) (hB : Bx w b T [.slice a n k, .slice a' n' k']) (h1 : n ≤ 2048) (h2 : n' ≤ 2048) :
    Calls Tryz.prog 195 #[.slice (some ⟨b, 0, none⟩) 2 2] w fun e w' => e = .returned (.int .i64 (if n = n' then 0 else 1)) ∧ Below w.heap.size w w' := by
  have x0 := hB.c0
  have x1 := hB.c1
  have xl := hB.lt
  have k1 : ¬ (2048 : Int) < n := by omega
  have k2 : ¬ (2048 : Int) < n' := by omega
  have hbel := Below.refl w.heap.size w
  clear hB h1 h2
  by_cases he : n = n'
  · subst he
    rw [if_pos rfl]
    go_enter Tryz.func195, Tryz.ntmps195
    go_wp2_with fail
    go_rounds 3
    go_wp2_with fail
    go_rounds 3
    exact bodyPost_ret (v := .int .i64 0) (by simp [results, Tryz.results195, go_sem, *]) rfl ⟨rfl, hbel⟩
  · rw [if_neg he]
    have h3 : ((n' : Int) != n) = true := by
      have : ¬ (n' : Int) = n := by omega
      simpa using this
    clear he
    go_enter Tryz.func195, Tryz.ntmps195
    go_wp2_with fail
    go_rounds 3
    go_wp2_with fail
    go_rounds 3
    exact bodyPost_ret (v := .int .i64 1) (by simp [results, Tryz.results195, go_sem, *]) rfl ⟨rfl, hbel⟩
set_option maxRecDepth 100000 in
set_option maxHeartbeats 2000000 in
theorem short_two (w : World) (b n n' k k' : Nat) (T : TypeId) (a a' : Option Addr) (hB : Bx w b T [.slice a n k, .slice a' n' k']) (h1 : n ≤ 2048) (h2 : n' ≤ 2048) :
    Calls Tryz.prog 114 #[.slice (some ⟨b, 0, none⟩) 2 2] w fun e w' => e = .returned (.int .i64 0) ∧ Below w.heap.size w w' := by
  have x0 := hB.c0
  have x1 := hB.c1
  have xl := hB.lt
  have k1 : ¬ (2048 : Int) < n := by omega
  have k2 : ¬ (2048 : Int) < n' := by omega
  have hbel := Below.refl w.heap.size w
  clear hB h1 h2
  go_enter Tryz.func114, Tryz.ntmps114
  go_wp2_with fail
  go_rounds 3
  exact bodyPost_ret (v := .int .i64 0) (by simp [results, Tryz.results114, go_sem, *]) rfl ⟨rfl, hbel⟩
set_option maxRecDepth 100000 in
set_option maxHeartbeats 2000000 in
theorem short_one (w : World) (b n k : Nat) (T : TypeId) (a : Option Addr) (hB : Bx w b T [.slice a n k]) (h1 : n ≤ 2048) :
    Calls Tryz.prog 114 #[.slice (some ⟨b, 0, none⟩) 1 1] w fun e w' => e = .returned (.int .i64 0) ∧ Below w.heap.size w w' := by
  have x0 := hB.c0
  have xl := hB.lt
  have k1 : ¬ (2048 : Int) < n := by omega
  have hbel := Below.refl w.heap.size w
  clear hB h1
  go_enter Tryz.func114, Tryz.ntmps114
  go_wp2_with fail
  go_rounds 2
  exact bodyPost_ret (v := .int .i64 0) (by simp [results, Tryz.results114, go_sem, *]) rfl ⟨rfl, hbel⟩
set_option maxRecDepth 100000 in
set_option maxHeartbeats 4000000 in
theorem veach_any (op : Rat → Rat → Rat) (w : World) (x y : Value) (qs ps : List Rat) (n gf : Nat) (cbf : Array Value) (hx : VecAt w x qs) (hy : VecAt w y ps) (hl : qs.length = n) (hl' : ps.length = n) (hn : n ≤ 2048) (eg : ∀ args w, (callFunc gf args).run Tryz.prog w = .ok (.enter gf args) w)
    (hop : ∀ i W2, i < n → In w.heap.size w W2 → Calls Tryz.prog gf (#[fracV (qs.getD i 0), fracV (ps.getD i 0)] ++ cbf) W2 fun e w' => e = .returned (fracV (op (qs.getD i 0) (ps.getD i 0))) ∧ Below W2.heap.size W2 w') :
    Calls Tryz.prog 151 #[x, y, .func (.func gf) #[] cbf] w fun e w' => (∃ d, e = .returned (.tuple #[d, .int .i64 0]) ∧ VecAt w' d ((List.range n).map fun i => op (qs.getD i 0) (ps.getD i 0))) ∧ Below w.heap.size w w' := by
  have HX0 := Lib.hid hx
  have HY0 := Lib.hid hy
  obtain ⟨a, k, rfl⟩ := hx.shape
  obtain ⟨a', k', rfl⟩ := hy.shape
  rw [hl] at HX0 ⊢
  rw [hl'] at HY0 ⊢
  have c1 := fun W b T h => alike_two W b n n k k' T a a' h hn hn
  rw [if_pos rfl] at c1
  have hmk := mk_vec n (by omega)
  obtain ⟨fc, hfc⟩ : ∃ fc, fc = fcl (List.replicate n 0) := ⟨_, rfl⟩
  rw [← hfc] at hmk
  have HF := Lib.hid hfc
  have HL := Lib.hid hl
  have HL' := Lib.hid hl'
  have HOP := Lib.hid hop
  obtain ⟨X, hX⟩ : ∃ X, X = w.heap.size := ⟨_, rfl⟩
  have HX := Lib.hid hX
  clear hx hy hl hl' hop hfc
  go_enter Tryz.func151, Tryz.ntmps151
  go_wp2_with fail
  ((with_reducible refine (c1 _ _ 97 ?_).mono ?_))
  · exact Bx.new_at _ _ _ rfl
  rintro e w2 ⟨rfl, hb⟩
  have hin := ((In.self w).alloc (.cells #[.slice a n k, .slice a' n k'] 97)).call hb
  rw [← hX] at hin
  clear hb c1 hX
  go_upto_region 5 with fail
  obtain ⟨g, hg⟩ : ∃ g, g = w2.heap.size := ⟨_, rfl⟩
  have hXg : X ≤ g := by have := hin.siz; omega
  have bv : VBx (w2.alloc (.cells fc.toArray 56)) g (pv (fun i => op (qs.getD i 0) (ps.getD i 0)) n 0) := by
    have := Bx.new_at w2 fc.toArray 56 hg
    show Bx _ g 56 (fcl _)
    rw [pv_zero, ← HF.out]; exact this
  replace hin := hin.alloc (.cells fc.toArray 56)
  rw [← hg]
  clear hg hmk
  generalize w2.alloc (.cells fc.toArray 56) = W1 at *
  go_wp2_with fail
  go_loopw [23] (fun v23 wr => ∃ i : Nat, i ≤ n ∧ v23 = .int .i64 i ∧ In X w wr ∧ VBx wr g (pv (fun i => op (qs.getD i 0) (ps.getD i 0)) n i)) (fun v23 _ => n - (RowKit.intOf v23).toNat)
  case atStart => exact ⟨0, Nat.zero_le _, rfl, hin, bv⟩
  case round =>
    clear hin bv
    obtain ⟨i, hi, rfl, hin, bv⟩ := hrel
    by_cases hin2 : i < n
    · have hiI : (i : Int) < n := by omega
      have hi0 : (0 : Int) ≤ i := by omega
      have hiw : IntKind.i64.wrap ((i : Int) + 1) = ((i + 1 : Nat) : Int) := IntWalk.i64_in _ (by omega)
      obtain ⟨b1, o1, _, B1, B2, B3, B4, B5, e1, hb1, _, hf1, y0, y1, y2, y3, y4⟩ := HX0.out.at (i := i) (by rw [HL.out]; exact hin2)
      obtain ⟨b2, o2, _, D1, D2, D3, D4, D5, e2, hb2, _, hf2, z0, z1, z2, z3, z4⟩ := HY0.out.at (i := i) (by rw [HL'.out]; exact hin2)
      simp only [Value.slice.injEq] at e1 e2
      obtain ⟨rfl, _, _⟩ := e1
      obtain ⟨rfl, _, _⟩ := e2
      rw [← HX.out] at hb1 hb2
      rw [← hin.cell b1 _ hb1] at y0 y1 y2 y3 y4
      rw [← hin.cell b2 _ hb2] at z0 z1 z2 z3 z4
      have hbw1 : b1 < wr.heap.size := by have := hin.siz; omega
      have hbw2 : b2 < wr.heap.size := by have := hin.siz; omega
      have h3 := fun W2 (h : In wr.heap.size wr W2) => HOP.out i W2 hin2 (by rw [← HX.out]; exact hin.call h.bel)
      obtain ⟨q, hq⟩ : ∃ q, q = op (qs.getD i 0) (ps.getD i 0) := ⟨_, rfl⟩
      rw [← hq, hf1, hf2] at h3
      have hlt : i < (pv (fun i => op (qs.getD i 0) (ps.getD i 0)) n i).length := by rw [pv_length]; exact hin2
      have hgl := bv.lt
      have HQ := Lib.hid hq
      clear hq hf1 hf2
      go_upto_region 8 with fail
      have h := In.self wr
      have hc := h.cell
      refine wp_region_flow 13 (by kernel_rfl) (by kernel_rfl) (fun _ _ d _ _ h => by cases d <;> exact h) ?_; simp only [List.take_succ_cons, List.take_zero, List.drop_succ_cons, List.drop_zero]; simp only [putAll, Act.put, List.setIfInBounds_toArray, List.set]; (try simp only [Nat.reduceAdd]); (try simp only [Nat.zero_add]); (repeat (first | ((with_reducible refine flow_float (v := ?_) ?_ ?_ ?_); rotate_left 1; (focus (with_reducible rfl)); (focus (intro u w1 hw hd w2; (try simp only [depH] at hd); (try simp only [ext] at hd); (try simp only [extU] at hd); (try simp only [Nat.reduceAdd] at hd); (try simp only [Nat.reduceEqDiff] at hd); (try simp only [reduceIte] at hd); (try simp only [if_true] at hd); (try simp only [if_false] at hd); (try simp only [and_true] at hd); (try simp only [true_and] at hd); go_simp; exact rfl))) | ((with_reducible refine flow_pure0 (v := ?_) ?_ ?_ ?_ ?_); rotate_left 1; (focus (with_reducible rfl)); (focus rfl); (focus (intro u w1 hw hd; (try simp only [depH] at hd); (try simp only [ext] at hd); (try simp only [extU] at hd); (try simp only [Nat.reduceAdd] at hd); (try simp only [Nat.reduceEqDiff] at hd); (try simp only [reduceIte] at hd); (try simp only [if_true] at hd); (try simp only [if_false] at hd); (try simp only [and_true] at hd); (try simp only [true_and] at hd); have hc' := hw.cell; go_simp; exact rfl))) | ((with_reducible refine flow_skipg (j := ?_) (b := ?_) ?_ ?_ ?_); rotate_left 2; (focus (with_reducible rfl)); (focus (intro u w1 hw hd; (try simp only [depH] at hd); (try simp only [ext] at hd); (try simp only [extU] at hd); (try simp only [Nat.reduceAdd] at hd); (try simp only [Nat.reduceEqDiff] at hd); (try simp only [reduceIte] at hd); (try simp only [if_true] at hd); (try simp only [if_false] at hd); (try simp only [and_true] at hd); (try simp only [true_and] at hd); simp [yielded, hd]; done))) | ((with_reducible refine flow_pureg (v := ?_) (j := ?_) (b := ?_) ?_ ?_ ?_ ?_); rotate_left 3; (focus (with_reducible rfl)); (focus (intro u w1 hw hd; (try simp only [depH] at hd); (try simp only [ext] at hd); (try simp only [extU] at hd); (try simp only [Nat.reduceAdd] at hd); (try simp only [Nat.reduceEqDiff] at hd); (try simp only [reduceIte] at hd); (try simp only [if_true] at hd); (try simp only [if_false] at hd); (try simp only [and_true] at hd); (try simp only [true_and] at hd); simp [yielded, hd]; done)); (focus (intro u w1 hw hd; (try simp only [depH] at hd); (try simp only [ext] at hd); (try simp only [extU] at hd); (try simp only [Nat.reduceAdd] at hd); (try simp only [Nat.reduceEqDiff] at hd); (try simp only [reduceIte] at hd); (try simp only [if_true] at hd); (try simp only [if_false] at hd); (try simp only [and_true] at hd); (try simp only [true_and] at hd); have hc' := hw.cell; go_simp; exact rfl))) | ((with_reducible refine flow_alloc (t := ?_) (zs := ?_) ?_ ?_ ?_ ?_); rotate_left 2; (focus (with_reducible rfl)); (focus rfl); (focus (intro u w1; go_simp; exact rfl)))))
      (with_reducible refine flow_pure0 (v := fracV q) ?_ ?_ ?_ ?_)
      case refine_1 => with_reducible rfl
      case refine_2 => rfl
      case refine_3 =>
        intro u w1 hw hd
        (try simp only [depH] at hd); (try simp only [ext] at hd); (try simp only [extU] at hd); (try simp only [Nat.reduceAdd] at hd); (try simp only [Nat.reduceEqDiff] at hd); (try simp only [reduceIte] at hd); (try simp only [if_true] at hd); (try simp only [if_false] at hd); (try simp only [and_true] at hd); (try simp only [true_and] at hd)
        have hc' := hw.cell
        go_simp
        refine (h3 _ hw.ins).mono ?_
        rintro e w'' ⟨rfl, hb⟩
        exact ⟨rfl, hb⟩
      (repeat (first | ((with_reducible refine flow_float (v := ?_) ?_ ?_ ?_); rotate_left 1; (focus (with_reducible rfl)); (focus (intro u w1 hw hd w2; (try simp only [depH] at hd); (try simp only [ext] at hd); (try simp only [extU] at hd); (try simp only [Nat.reduceAdd] at hd); (try simp only [Nat.reduceEqDiff] at hd); (try simp only [reduceIte] at hd); (try simp only [if_true] at hd); (try simp only [if_false] at hd); (try simp only [and_true] at hd); (try simp only [true_and] at hd); go_simp; exact rfl))) | ((with_reducible refine flow_pure0 (v := ?_) ?_ ?_ ?_ ?_); rotate_left 1; (focus (with_reducible rfl)); (focus rfl); (focus (intro u w1 hw hd; (try simp only [depH] at hd); (try simp only [ext] at hd); (try simp only [extU] at hd); (try simp only [Nat.reduceAdd] at hd); (try simp only [Nat.reduceEqDiff] at hd); (try simp only [reduceIte] at hd); (try simp only [if_true] at hd); (try simp only [if_false] at hd); (try simp only [and_true] at hd); (try simp only [true_and] at hd); have hc' := hw.cell; go_simp; exact rfl))) | ((with_reducible refine flow_skipg (j := ?_) (b := ?_) ?_ ?_ ?_); rotate_left 2; (focus (with_reducible rfl)); (focus (intro u w1 hw hd; (try simp only [depH] at hd); (try simp only [ext] at hd); (try simp only [extU] at hd); (try simp only [Nat.reduceAdd] at hd); (try simp only [Nat.reduceEqDiff] at hd); (try simp only [reduceIte] at hd); (try simp only [if_true] at hd); (try simp only [if_false] at hd); (try simp only [and_true] at hd); (try simp only [true_and] at hd); simp [yielded, hd]; done))) | ((with_reducible refine flow_pureg (v := ?_) (j := ?_) (b := ?_) ?_ ?_ ?_ ?_); rotate_left 3; (focus (with_reducible rfl)); (focus (intro u w1 hw hd; (try simp only [depH] at hd); (try simp only [ext] at hd); (try simp only [extU] at hd); (try simp only [Nat.reduceAdd] at hd); (try simp only [Nat.reduceEqDiff] at hd); (try simp only [reduceIte] at hd); (try simp only [if_true] at hd); (try simp only [if_false] at hd); (try simp only [and_true] at hd); (try simp only [true_and] at hd); simp [yielded, hd]; done)); (focus (intro u w1 hw hd; (try simp only [depH] at hd); (try simp only [ext] at hd); (try simp only [extU] at hd); (try simp only [Nat.reduceAdd] at hd); (try simp only [Nat.reduceEqDiff] at hd); (try simp only [reduceIte] at hd); (try simp only [if_true] at hd); (try simp only [if_false] at hd); (try simp only [and_true] at hd); (try simp only [true_and] at hd); have hc' := hw.cell; go_simp; exact rfl))) | ((with_reducible refine flow_alloc (t := ?_) (zs := ?_) ?_ ?_ ?_ ?_); rotate_left 2; (focus (with_reducible rfl)); (focus rfl); (focus (intro u w1; go_simp; exact rfl)))))
      (try clear hc hf h); intro u w' h ha hdi; replace h := h.ins; (try simp only [World.size_alloc] at h); (try dsimp only at ha); (repeat rw [World.size_alloc] at ha); (try simp only [allH] at ha); (try simp only [ext] at ha); (try simp only [extU] at ha); (try simp only [Nat.reduceAdd] at ha); (try simp only [Nat.reduceEqDiff] at ha); (try simp only [reduceIte] at ha); (try simp only [if_true] at ha); (try simp only [if_false] at ha); (try simp only [and_true] at ha); (try simp only [true_and] at ha); have hc := h.cell; have hf := h.frozen
      (try obtain ha := ha); (try dsimp only);  simp only [ha]; clear ha hdi 
      have bv3 := bv.call h.bel
      have hin3 := hin.call h.bel
      obtain ⟨_, _, _, _, _, _, c0, c1, c2, c3, c4, f0, f1, f2, f3, f4⟩ := VBx.cells bv3 hlt
      have hgl3 := bv3.lt
      have hs := VBx.set bv3 i q hlt
      rw [show (pv (fun i => op (qs.getD i 0) (ps.getD i 0)) n i).set i q = pv (fun i => op (qs.getD i 0) (ps.getD i 0)) n (i + 1) by rw [HQ.out]; exact pv_set _ _ _] at hs
      have H1 := Lib.hid hs
      have H2 := Lib.hid (hin3.put5 (g := g) hXg i q)
      clear h hc hf hs hin3 bv3 hin bv h3 y0 y1 y2 y3 y4 z0 z1 z2 z3 z4 hbw1 hbw2 hb1 hb2 hgl
      go_wp2_with fail
      exact ⟨⟨i + 1, by omega, by go_num, H2.out, H1.out⟩, by simp [RowKit.intOf]; omega⟩
    · obtain rfl : i = n := by omega
      have hiI : ¬ (i : Int) < i := by omega
      rw [pv_full] at bv
      have hv : VecAt wr (.slice (some ⟨g, 0, none⟩) i i) ((List.range i).map fun t => op (qs.getD t 0) (ps.getD t 0)) := VBx.at bv i (by simp) i
      have H1 := Lib.hid hv
      have H2 := Lib.hid hin
      clear bv hin hv
      go_wp2_with fail
      exact bodyPost_ret (v := .tuple #[.slice (some ⟨g, 0, none⟩) i i, .int .i64 0]) (by simp [results, Tryz.results151, go_sem]) rfl ⟨⟨_, rfl, H1.out⟩, by rw [← HX.out]; exact H2.out.bel⟩
end Gus
end
section
/- fracs.Sum, vecs.Dot. -/
namespace Gus
open Go Go.RowKit Go.Proofs
set_option maxRecDepth 100000 in
set_option maxHeartbeats 2000000 in
theorem tadd_any {j l : Nat} (N : Nat) (w0 W : World) (T : Nat) (s x : Rat) (hT : Bx W T 256 (fcs s)) (hs : SzK j s) (hx : SzK l x) (hjl : j + l + 1 < 17592186044416) (hin : In N w0 W) (hN : N ≤ T) :
    Calls Tryz.prog 197 #[.pointer (some ⟨T, 0, none⟩), fracV x] W fun e w' => e = .returned (.tuple #[]) ∧ Bx w' T 256 (fcs (s + x)) ∧ In N w0 w' := by
  have h1 := fadd_any s x hs hx hjl
  obtain ⟨S1, S2, S3, S4, S5, hs1, hs2⟩ : ∃ A1 A2 A3 A4 A5, fracV s = .agg #[.int .u64 A1, .string A2, .bool A3, .int .u64 A4, .string A5] ∧ fcs s = [.int .u64 A1, .string A2, .bool A3, .int .u64 A4, .string A5] := ⟨_, _, _, _, _, rfl, rfl⟩
  obtain ⟨X1, X2, X3, X4, X5, hx1⟩ : ∃ A1 A2 A3 A4 A5, fracV x = .agg #[.int .u64 A1, .string A2, .bool A3, .int .u64 A4, .string A5] := ⟨_, _, _, _, _, rfl⟩
  rw [hs1, hx1] at h1
  rw [hs2] at hT
  rw [hx1]
  obtain ⟨z, hz⟩ : ∃ z, z = s + x := ⟨_, rfl⟩
  rw [← hz] at h1 ⊢
  obtain ⟨N1, N2, N3, N4, N5, hn1, hn2⟩ : ∃ A1 A2 A3 A4 A5, fracV z = .agg #[.int .u64 A1, .string A2, .bool A3, .int .u64 A4, .string A5] ∧ fcs z = [.int .u64 A1, .string A2, .bool A3, .int .u64 A4, .string A5] := ⟨_, _, _, _, _, rfl, rfl⟩
  rw [hn1] at h1
  rw [hn2]
  have hTl := hT.lt
  clear hz hs1 hs2 hx1 hn1 hn2
  go_enter Tryz.func197, Tryz.ntmps197
  go_upto_region 1 with fail
  obtain ⟨Z, hZ⟩ : ∃ Z, Z = W.heap.size := ⟨_, rfl⟩
  have bx := Bx.new_at W #[.int .u64 X1, .string X2, .bool X3, .int .u64 X4, .string X5] 56 hZ
  replace hT := hT.alloc (.cells #[.int .u64 X1, .string X2, .bool X3, .int .u64 X4, .string X5] 56)
  replace hin := hin.alloc (.cells #[.int .u64 X1, .string X2, .bool X3, .int .u64 X4, .string X5] 56)
  rw [← hZ]
  clear hZ hTl
  generalize W.alloc (.cells #[.int .u64 X1, .string X2, .bool X3, .int .u64 X4, .string X5] 56) = W1 at *
  have x0 := bx.c0
  have x1 := bx.c1
  have x2 := bx.c2
  have x3 := bx.c3
  have x4 := bx.c4
  have xl := bx.lt
  have s0 := hT.c0
  have s1 := hT.c1
  have s2 := hT.c2
  have s3 := hT.c3
  have s4 := hT.c4
  have sl := hT.lt
  have h := In.self W1
  have hc := h.cell
  refine wp_region_flow 9 (by kernel_rfl) (by kernel_rfl) (fun _ _ d _ _ h => by cases d <;> exact h) ?_; simp only [List.take_succ_cons, List.take_zero, List.drop_succ_cons, List.drop_zero]; simp only [putAll, Act.put, List.setIfInBounds_toArray, List.set]; (try simp only [Nat.reduceAdd]); (try simp only [Nat.zero_add]); (repeat (first | ((with_reducible refine flow_float (v := ?_) ?_ ?_ ?_); rotate_left 1; (focus (with_reducible rfl)); (focus (intro u w1 hw hd w2; (try simp only [depH] at hd); (try simp only [ext] at hd); (try simp only [extU] at hd); (try simp only [Nat.reduceAdd] at hd); (try simp only [Nat.reduceEqDiff] at hd); (try simp only [reduceIte] at hd); (try simp only [if_true] at hd); (try simp only [if_false] at hd); (try simp only [and_true] at hd); (try simp only [true_and] at hd); go_simp; exact rfl))) | ((with_reducible refine flow_pure0 (v := ?_) ?_ ?_ ?_ ?_); rotate_left 1; (focus (with_reducible rfl)); (focus rfl); (focus (intro u w1 hw hd; (try simp only [depH] at hd); (try simp only [ext] at hd); (try simp only [extU] at hd); (try simp only [Nat.reduceAdd] at hd); (try simp only [Nat.reduceEqDiff] at hd); (try simp only [reduceIte] at hd); (try simp only [if_true] at hd); (try simp only [if_false] at hd); (try simp only [and_true] at hd); (try simp only [true_and] at hd); have hc' := hw.cell; go_simp; exact rfl))) | ((with_reducible refine flow_skipg (j := ?_) (b := ?_) ?_ ?_ ?_); rotate_left 2; (focus (with_reducible rfl)); (focus (intro u w1 hw hd; (try simp only [depH] at hd); (try simp only [ext] at hd); (try simp only [extU] at hd); (try simp only [Nat.reduceAdd] at hd); (try simp only [Nat.reduceEqDiff] at hd); (try simp only [reduceIte] at hd); (try simp only [if_true] at hd); (try simp only [if_false] at hd); (try simp only [and_true] at hd); (try simp only [true_and] at hd); simp [yielded, hd]; done))) | ((with_reducible refine flow_pureg (v := ?_) (j := ?_) (b := ?_) ?_ ?_ ?_ ?_); rotate_left 3; (focus (with_reducible rfl)); (focus (intro u w1 hw hd; (try simp only [depH] at hd); (try simp only [ext] at hd); (try simp only [extU] at hd); (try simp only [Nat.reduceAdd] at hd); (try simp only [Nat.reduceEqDiff] at hd); (try simp only [reduceIte] at hd); (try simp only [if_true] at hd); (try simp only [if_false] at hd); (try simp only [and_true] at hd); (try simp only [true_and] at hd); simp [yielded, hd]; done)); (focus (intro u w1 hw hd; (try simp only [depH] at hd); (try simp only [ext] at hd); (try simp only [extU] at hd); (try simp only [Nat.reduceAdd] at hd); (try simp only [Nat.reduceEqDiff] at hd); (try simp only [reduceIte] at hd); (try simp only [if_true] at hd); (try simp only [if_false] at hd); (try simp only [and_true] at hd); (try simp only [true_and] at hd); have hc' := hw.cell; go_simp; exact rfl))) | ((with_reducible refine flow_alloc (t := ?_) (zs := ?_) ?_ ?_ ?_ ?_); rotate_left 2; (focus (with_reducible rfl)); (focus rfl); (focus (intro u w1; go_simp; exact rfl))) | ((with_reducible refine flow_pure0 (v := ?_) ?_ ?_ ?_ ?_); rotate_left 1; (focus (with_reducible rfl)); (focus rfl); (focus (intro u w1 hw hd; (try simp only [depH] at hd); (try simp only [ext] at hd); (try simp only [extU] at hd); (try simp only [Nat.reduceAdd] at hd); (try simp only [Nat.reduceEqDiff] at hd); (try simp only [reduceIte] at hd); (try simp only [if_true] at hd); (try simp only [if_false] at hd); (try simp only [and_true] at hd); (try simp only [true_and] at hd); have hc' := hw.cell; go_simp; go_at_call 66; ((with_reducible refine (h1 _).mono ?_)); rintro e w'' ⟨rfl, hb⟩; refine ⟨?_, hb⟩; exact rfl))) | ((with_reducible refine flow_pureg (v := ?_) (j := ?_) (b := ?_) ?_ ?_ ?_ ?_); rotate_left 3; (focus (with_reducible rfl)); (focus (intro u w1 hw hd; (try simp only [depH] at hd); (try simp only [ext] at hd); (try simp only [extU] at hd); (try simp only [Nat.reduceAdd] at hd); (try simp only [Nat.reduceEqDiff] at hd); (try simp only [reduceIte] at hd); (try simp only [if_true] at hd); (try simp only [if_false] at hd); (try simp only [and_true] at hd); (try simp only [true_and] at hd); simp [yielded, hd]; done)); (focus (intro u w1 hw hd; (try simp only [depH] at hd); (try simp only [ext] at hd); (try simp only [extU] at hd); (try simp only [Nat.reduceAdd] at hd); (try simp only [Nat.reduceEqDiff] at hd); (try simp only [reduceIte] at hd); (try simp only [if_true] at hd); (try simp only [if_false] at hd); (try simp only [and_true] at hd); (try simp only [true_and] at hd); have hc' := hw.cell; go_simp; go_at_call 66; ((with_reducible refine (h1 _).mono ?_)); rintro e w'' ⟨rfl, hb⟩; refine ⟨?_, hb⟩; exact rfl)))))
  (try clear hc hf h); intro u w' h ha hdi; replace h := h.ins; (try simp only [World.size_alloc] at h); (try dsimp only at ha); (repeat rw [World.size_alloc] at ha); (try simp only [allH] at ha); (try simp only [ext] at ha); (try simp only [extU] at ha); (try simp only [Nat.reduceAdd] at ha); (try simp only [Nat.reduceEqDiff] at ha); (try simp only [reduceIte] at ha); (try simp only [if_true] at ha); (try simp only [if_false] at ha); (try simp only [and_true] at ha); (try simp only [true_and] at ha); have hc := h.cell; have hf := h.frozen
  (try obtain ha := ha); (try dsimp only);  simp only [ha]; clear ha hdi 
  have hT2 := hT.call h.bel
  have hin2 := hin.call h.bel
  have q0 := hT2.c0
  have q1 := hT2.c1
  have q2 := hT2.c2
  have q3 := hT2.c3
  have q4 := hT2.c4
  have f0 := hT2.frozen 0
  have f1 := hT2.frozen 1
  have f2 := hT2.frozen 2
  have f3 := hT2.frozen 3
  have f4 := hT2.frozen 4
  have ql := hT2.lt
  have K1 := Lib.hid (((((hT2.set 0 (.int .u64 N1)).set 1 (.string N2)).set 2 (.bool N3)).set 3 (.int .u64 N4)).set 4 (.string N5))
  have K2 := Lib.hid (((((hin2.setCell (p := ⟨T, 0, none⟩) hN (.int .u64 N1)).setCell (p := ⟨T, 1, none⟩) hN (.string N2)).setCell (p := ⟨T, 2, none⟩) hN (.bool N3)).setCell (p := ⟨T, 3, none⟩) hN (.int .u64 N4)).setCell (p := ⟨T, 4, none⟩) hN (.string N5))
  clear h hc hf hT hin hT2 hin2 h1 x0 x1 x2 x3 x4 xl s0 s1 s2 s3 s4 sl bx
  go_wp2_with fail
  go_end0
  exact ⟨rfl, K1.out, K2.out⟩
set_option maxRecDepth 100000 in
set_option maxHeartbeats 4000000 in
theorem feach_any {j : Nat} (N : Nat) (w0 W : World) (T : Nat) (v : Value) (qs : List Rat) (F : Nat → Rat) (hv : VecAt w0 v qs) (hF : ∀ i, F i = qs.getD i 0) (hT : Bx W T 256 (fcs 0)) (hq : ∀ i, SzK j (qs.getD i 0)) (hcap : 1 + qs.length * (j + 1) < 17592186044416) (hl : qs.length ≤ 4096) (hin : In N w0 W) (hN : N ≤ T) (hN0 : w0.heap.size ≤ N) :
    Calls Tryz.prog 196 #[.func (.func 197) #[.pointer (some ⟨T, 0, none⟩)] #[], v] W fun e w' => e = .returned (.tuple #[]) ∧ Bx w' T 256 (fcs (sumTo F qs.length)) ∧ In N w0 w' := by
  have eg : ∀ args w, (callFunc 197 args).run Tryz.prog w = .ok (.enter 197 args) w := enters_of Tryz.func197 (by kernel_rfl) rfl
  have hsz := sumTo_szk (F := F) (j := j) (fun t => by rw [hF]; exact hq t)
  have HV := Lib.hid hv
  obtain ⟨a, k, rfl⟩ := hv.shape
  obtain ⟨n, hn⟩ : ∃ n, n = qs.length := ⟨_, rfl⟩
  rw [← hn] at hcap hl ⊢
  have HN := Lib.hid hn
  have HSZ := Lib.hid hsz
  have HF := Lib.hid hF
  have HQ := Lib.hid hq
  have HC := Lib.hid hcap
  clear hv hn hsz hF hq hcap
  go_enter Tryz.func196, Tryz.ntmps196
  go_wp2_with fail
  go_loopw [8] (fun v8 wr => ∃ i : Nat, i ≤ n ∧ v8 = .int .i64 i ∧ Bx wr T 256 (fcs (sumTo F i)) ∧ In N w0 wr) (fun v8 _ => n - (RowKit.intOf v8).toNat)
  case atStart => exact ⟨0, Nat.zero_le _, rfl, hT, hin⟩
  case round =>
    clear hT hin
    obtain ⟨i, hi, rfl, hT, hin⟩ := hrel
    by_cases hin2 : i < n
    · have hiI : (i : Int) < n := by omega
      have hi0 : (0 : Int) ≤ i := by omega
      have hiw : IntKind.i64.wrap ((i : Int) + 1) = ((i + 1 : Nat) : Int) := IntWalk.i64_in _ (by omega)
      obtain ⟨b1, o1, _, B1, B2, B3, B4, B5, e1, hb1, _, hf1, y0, y1, y2, y3, y4⟩ := HV.out.at (i := i) (by rw [← HN.out]; exact hin2)
      simp only [Value.slice.injEq] at e1
      obtain ⟨rfl, _, hk1⟩ := e1
      subst hk1
      rw [← hin.cell b1 _ (by omega)] at y0 y1 y2 y3 y4
      have hbw1 : b1 < wr.heap.size := by have := hin.siz; omega
      have hcp := HC.out
      have hci : (i + 1) * (j + 1) ≤ n * (j + 1) := Nat.mul_le_mul_right _ (by omega)
      rw [Nat.add_mul, Nat.one_mul] at hci
      have hcon := tadd_any N w0 (wr.alloc (.cells #[.int .u64 B1, .string B2, .bool B3, .int .u64 B4, .string B5] 56)) T (sumTo F i) (qs.getD i 0) (hT.alloc _) (HSZ.out i) (HQ.out i) (by omega) (hin.alloc _) hN
      rw [show sumTo F i + qs.getD i 0 = sumTo F (i + 1) by rw [← HF.out]; rfl, hf1] at hcon
      clear hT hin hf1 hb1
      go_wp2_with fail
      (refine hcon.mono ?_)
      rintro e w2 ⟨rfl, hT2, hin3⟩
      clear hcon y0 y1 y2 y3 y4 hbw1
      go_wp2_with fail
      exact ⟨⟨i + 1, by omega, by go_num, hT2, hin3⟩, by simp [RowKit.intOf]; omega⟩
    · obtain rfl : i = n := by omega
      have hiI : ¬ (i : Int) < i := by omega
      go_wp2_with fail
      go_end0
      exact ⟨rfl, hT, hin⟩
set_option maxRecDepth 100000 in
set_option maxHeartbeats 2000000 in
theorem fsum_any {j : Nat} (w : World) (v : Value) (qs : List Rat) (hv : VecAt w v qs) (hq : ∀ i, SzK j (qs.getD i 0)) (hcap : 1 + qs.length * (j + 1) < 17592186044416) (hl : qs.length ≤ 4096) :
    Calls Tryz.prog 152 #[v] w fun e w' => e = .returned (fracV (sumTo (fun i => qs.getD i 0) qs.length)) ∧ Below w.heap.size w w' := by
  have h1 := fun W T (hT : Bx W T 256 (fcs 0)) (hin : In (w.heap.size + 1) (w.alloc (.cells #[.int .u64 0, .string ⟨#[]⟩, .bool false, .int .u64 0, .string ⟨#[]⟩] 56)) W) (hN : w.heap.size + 1 ≤ T) => feach_any (j := j) (w.heap.size + 1) (w.alloc (.cells #[.int .u64 0, .string ⟨#[]⟩, .bool false, .int .u64 0, .string ⟨#[]⟩] 56)) W T v qs (fun i => qs.getD i 0) (hv.call ((Below.refl _ _).alloc (Nat.le_refl _) _)) (fun _ => rfl) hT hq hcap hl hin hN (by rw [World.size_alloc]; exact Nat.le_refl _)
  obtain ⟨a, k, rfl⟩ := hv.shape
  obtain ⟨z, hz⟩ : ∃ z, z = sumTo (fun i => qs.getD i 0) qs.length := ⟨_, rfl⟩
  rw [← hz] at h1 ⊢
  obtain ⟨n, hn⟩ : ∃ n, n = qs.length := ⟨_, rfl⟩
  rw [← hn] at h1 ⊢
  obtain ⟨Z, hZ⟩ : ∃ Z, Z = w.heap.size := ⟨_, rfl⟩
  have HX := Lib.hid hZ
  obtain ⟨N1, N2, N3, N4, N5, hn1, hn2⟩ : ∃ A1 A2 A3 A4 A5, fracV z = .agg #[.int .u64 A1, .string A2, .bool A3, .int .u64 A4, .string A5] ∧ fcs z = [.int .u64 A1, .string A2, .bool A3, .int .u64 A4, .string A5] := ⟨_, _, _, _, _, rfl, rfl⟩
  rw [hn2] at h1
  rw [hn1]
  clear hz hn hv hq hcap hn1 hn2
  go_enter Tryz.func152, Tryz.ntmps152
  go_wp2_with fail
  ((with_reducible refine (h1 _ _ ?_ ?_ ?_).mono ?_))
  · exact Bx.new_at _ _ _ (by simp)
  · exact (In.of (w.alloc (.cells #[.int .u64 0, .string ⟨#[]⟩, .bool false, .int .u64 0, .string ⟨#[]⟩] 56)) (by rw [World.size_alloc])).alloc _
  · exact Nat.le_refl _
  rintro e w2 ⟨rfl, hT, hin⟩
  have bq : Bx w2 Z 56 [.int .u64 0, .string ⟨#[]⟩, .bool false, .int .u64 0, .string ⟨#[]⟩] := Bx.below (Bx.new_at w #[.int .u64 0, .string ⟨#[]⟩, .bool false, .int .u64 0, .string ⟨#[]⟩] 56 hZ) hin.bel (by omega)
  have hin2 : In Z w w2 := hin.out (by rw [hZ]; exact (In.self w).alloc _) (by omega)
  rw [← hZ] at hT ⊢
  clear hZ hin h1
  have s0 := hT.c0
  have s1 := hT.c1
  have s2 := hT.c2
  have s3 := hT.c3
  have s4 := hT.c4
  have sl := hT.lt
  have q0 := bq.c0
  have q1 := bq.c1
  have q2 := bq.c2
  have q3 := bq.c3
  have q4 := bq.c4
  have f0 := bq.frozen 0
  have f1 := bq.frozen 1
  have f2 := bq.frozen 2
  have f3 := bq.frozen 3
  have f4 := bq.frozen 4
  have ql := bq.lt
  have K1 := Lib.hid (((((bq.set 0 (.int .u64 N1)).set 1 (.string N2)).set 2 (.bool N3)).set 3 (.int .u64 N4)).set 4 (.string N5))
  have K2 := Lib.hid (((((hin2.setCell (p := ⟨Z, 0, none⟩) (Nat.le_refl _) (.int .u64 N1)).setCell (p := ⟨Z, 1, none⟩) (Nat.le_refl _) (.string N2)).setCell (p := ⟨Z, 2, none⟩) (Nat.le_refl _) (.bool N3)).setCell (p := ⟨Z, 3, none⟩) (Nat.le_refl _) (.int .u64 N4)).setCell (p := ⟨Z, 4, none⟩) (Nat.le_refl _) (.string N5))
  clear hT bq hin2
  go_wp2_with fail
  have k1 := K1.out
  have k2 := K2.out
  clear K1 K2 s0 s1 s2 s3 s4 sl q0 q1 q2 q3 q4 f0 f1 f2 f3 f4 ql
  generalize ((((w2.setCell ⟨Z, 0, none⟩ (.int .u64 N1)).setCell ⟨Z, 1, none⟩ (.string N2)).setCell ⟨Z, 2, none⟩ (.bool N3)).setCell ⟨Z, 3, none⟩ (.int .u64 N4)).setCell ⟨Z, 4, none⟩ (.string N5) = W5 at *
  have e0 : W5.cell? ⟨Z, 0, none⟩ = some (.int .u64 N1) := k1.cell 0
  have e1 : W5.cell? ⟨Z, 1, none⟩ = some (.string N2) := k1.cell 1
  have e2 : W5.cell? ⟨Z, 2, none⟩ = some (.bool N3) := k1.cell 2
  have e3 : W5.cell? ⟨Z, 3, none⟩ = some (.int .u64 N4) := k1.cell 3
  have e4 : W5.cell? ⟨Z, 4, none⟩ = some (.string N5) := k1.cell 4
  refine bodyPost_ret (v := .agg #[.int .u64 N1, .string N2, .bool N3, .int .u64 N4, .string N5]) ?_ rfl ⟨rfl, by rw [← HX.out]; exact k2.bel⟩
  simp [results, Tryz.results152, go_sem, e0, e1, e2, e3, e4]
end Gus
end
section
/- vecs.Dot. -/
namespace Gus
open Go Go.RowKit Go.Proofs
def dotV (qs ps : List Rat) (n : Nat) : Rat := sumTo (fun i => qs.getD i 0 * ps.getD i 0) n
theorem sumTo_congr {F G : Nat → Rat} : ∀ n, (∀ i, i < n → F i = G i) → sumTo F n = sumTo G n
  | 0, _ => rfl
  | n + 1, h => by rw [sumTo, sumTo, sumTo_congr n (fun i hi => h i (by omega)), h n (by omega)]
set_option maxRecDepth 100000 in
set_option maxHeartbeats 2000000 in
theorem vdot_ok {j l : Nat} (w : World) (x y : Value) (qs ps : List Rat) (n : Nat) (hx : VecAt w x qs) (hy : VecAt w y ps) (hl : qs.length = n) (hl' : ps.length = n) (hn : n ≤ 2048) (hq : ∀ i, SzK j (qs.getD i 0)) (hp : ∀ i, SzK l (ps.getD i 0)) (hcap : 1 + n * (j + l + 1) < 17592186044416) :
    Calls Tryz.prog 115 #[x, y] w fun e w' => e = .returned (.tuple #[fracV (dotV qs ps n), .int .i64 0]) ∧ Below w.heap.size w w' := by
  have eg : ∀ args w, (callFunc 105 args).run Tryz.prog w = .ok (.enter 105 args) w := enters_of Tryz.func105 (by kernel_rfl) rfl
  have hjl : 0 < n → j + l + 1 ≤ n * (j + l + 1) := fun h => Nat.le_mul_of_pos_left _ h
  have h1 := fun W (hb : Below w.heap.size w W) => veach_any (· * ·) W x y qs ps n 105 #[] (hx.call hb) (hy.call hb) hl hl' hn eg (fun i W2 hi _ => fmul_any _ _ (hq i) (hp i) (by have := hjl (by omega); omega) W2)
  obtain ⟨ms, hms⟩ : ∃ ms, ms = (List.range n).map fun i => qs.getD i 0 * ps.getD i 0 := ⟨_, rfl⟩
  have hml : ms.length = n := by rw [hms]; simp
  have hmi : ∀ i, i < n → ms.getD i 0 = qs.getD i 0 * ps.getD i 0 := fun i hi => by
    rw [hms, List.getD_eq_getElem?_getD, List.getElem?_map, List.getElem?_range hi]; rfl
  have hmz : ∀ i, SzK (j + l) (ms.getD i 0) := fun i => by
    by_cases hi : i < n
    · rw [hmi i hi]; exact (hq i).mul (hp i)
    · rw [List.getD_eq_getElem?_getD, List.getElem?_eq_none (by omega)]
      exact SzK.zero.mono (by have := (hq 0).pos; omega)
  rw [← hms] at h1
  have h2 := fun W v (h : VecAt W v ms) => fsum_any (j := j + l) W v ms h hmz (by rw [hml]; exact hcap) (by omega)
  rw [hml, sumTo_congr n hmi] at h2
  unfold dotV
  obtain ⟨z, hz⟩ : ∃ z, z = sumTo (fun i => qs.getD i 0 * ps.getD i 0) n := ⟨_, rfl⟩
  rw [← hz] at h2 ⊢
  obtain ⟨a, k, rfl⟩ := hx.shape
  obtain ⟨a', k', rfl⟩ := hy.shape
  rw [hl, hl'] at h1
  rw [hl, hl']
  obtain ⟨X, hX⟩ : ∃ X, X = w.heap.size := ⟨_, rfl⟩
  have HX := Lib.hid hX
  have HML := Lib.hid hml
  clear hx hy hl hl' hq hp hcap hjl hms hml hmi hmz hz eg
  go_enter Tryz.func115, Tryz.ntmps115
  go_wp2_with fail
  ((with_reducible refine (h1 _ ?_).mono ?_))
  · exact ((In.self w).alloc _).bel
  rintro e w2 ⟨⟨d, rfl, hd⟩, hb⟩
  have hin := ((In.self w).alloc (.cells #[.int .u64 0, .string ⟨#[]⟩, .bool false, .int .u64 0, .string ⟨#[]⟩] 56)).call hb
  have bq := (Bx.new_at w #[.int .u64 0, .string ⟨#[]⟩, .bool false, .int .u64 0, .string ⟨#[]⟩] 56 hX).call hb
  obtain ⟨da, dk, rfl⟩ := hd.shape
  rw [HML.out] at hd ⊢
  rw [← hX]
  clear hX hb h1
  go_wp2_with fail
  ((with_reducible refine (h2 _ _ hd).mono ?_))
  rintro e w3 ⟨rfl, hb⟩
  replace hin := hin.call hb
  replace bq := bq.call hb
  clear hb h2 hd
  ((obtain ⟨A1, A2, A3, A4, A5, hA⟩ : ∃ A1 A2 A3 A4 A5, fracV z = .agg #[.int .u64 A1, .string A2, .bool A3, .int .u64 A4, .string A5] := ⟨_, _, _, _, _, rfl⟩);
              ((try rw [hA]));
              (have HA := Lib.hid hA);
              (clear hA);
              (have q0 := bq.c0);
              (have q1 := bq.c1);
              (have q2 := bq.c2);
              (have q3 := bq.c3);
              (have q4 := bq.c4);
              (have f0 := bq.frozen 0);
              (have f1 := bq.frozen 1);
              (have f2 := bq.frozen 2);
              (have f3 := bq.frozen 3);
              (have f4 := bq.frozen 4);
              (have ql := bq.lt);
              (have K1 := Lib.hid ((((((bq.set 0 (.int .u64 A1)).set 1 (.string A2)).set 2 (.bool A3)).set 3 (.int .u64 A4)).set 4 (.string A5))));
              (have K2 := Lib.hid ((((((hin.setCell (p := ⟨X, 0, none⟩) (by first | (simp; done) | (have := HX.out; simp; omega)) (.int .u64 A1)).setCell (p := ⟨X, 1, none⟩) (by first | (simp; done) | (have := HX.out; simp; omega)) (.string A2)).setCell (p := ⟨X, 2, none⟩) (by first | (simp; done) | (have := HX.out; simp; omega)) (.bool A3)).setCell (p := ⟨X, 3, none⟩) (by first | (simp; done) | (have := HX.out; simp; omega)) (.int .u64 A4)).setCell (p := ⟨X, 4, none⟩) (by first | (simp; done) | (have := HX.out; simp; omega)) (.string A5))));
              (clear bq hin);
              (go_wp2_with fail);
              (have k1 := K1.out);
              (have k2 := K2.out);
              (clear q0 q1 q2 q3 q4 f0 f1 f2 f3 f4 ql K1 K2);
              (generalize (((((w3.setCell ⟨X, 0, none⟩ (.int .u64 A1)).setCell ⟨X, 1, none⟩ (.string A2)).setCell ⟨X, 2, none⟩ (.bool A3)).setCell ⟨X, 3, none⟩ (.int .u64 A4)).setCell ⟨X, 4, none⟩ (.string A5)) = W5 at *);
              (have e0 : W5.cell? ⟨X, 0, none⟩ = some (.int .u64 A1) := k1.cell 0);
              (have e1 : W5.cell? ⟨X, 1, none⟩ = some (.string A2) := k1.cell 1);
              (have e2 : W5.cell? ⟨X, 2, none⟩ = some (.bool A3) := k1.cell 2);
              (have e3 : W5.cell? ⟨X, 3, none⟩ = some (.int .u64 A4) := k1.cell 3);
              (have e4 : W5.cell? ⟨X, 4, none⟩ = some (.string A5) := k1.cell 4);
              (have hz := k2.bel);
              (have hA := HA.out);
              (refine bodyPost_ret (v := .tuple #[.agg #[.int .u64 A1, .string A2, .bool A3, .int .u64 A4, .string A5], .int .i64 0]) ?_ rfl ⟨by rw [hA], hz⟩);
              (simp [results, Tryz.results115, go_sem, e0, e1, e2, e3, e4]))
end Gus
end
section
/- The rows of a dense matrix as it is read; matrices whose slice has room. -/
namespace Gus
open Go Go.RowKit Go.Proofs
def rowV (c : Nat) (qs : List Rat) (i : Nat) : List Rat := (List.range c).map fun t => mvals c qs i t
theorem rowV_length (c : Nat) (qs : List Rat) (i : Nat) : (rowV c qs i).length = c := by simp [rowV]
theorem rowV_getD {c : Nat} (qs : List Rat) (i : Nat) {t : Nat} (ht : t < c) : (rowV c qs i).getD t 0 = mvals c qs i t := by
  rw [rowV, List.getD_eq_getElem?_getD, List.getElem?_map, List.getElem?_range ht]; rfl
set_option maxRecDepth 100000 in
set_option maxHeartbeats 2000000 in
theorem mrow2_any (w : World) (v : Value) (r c i : Nat) (qs : List Rat) (hM : MatAt w v r c qs) (hk : CapOk v) (hi : i < r) (hr : r ≤ 2048) (hc : c ≤ 2048) :
    Calls Tryz.prog 116 #[v, .int .i64 i] w fun e w' => (∃ x, e = .returned x ∧ VecAt w' x (rowV c qs i)) ∧ Below w.heap.size w w' := by
  obtain ⟨x, rfl, hql, hvx⟩ := hM
  obtain ⟨a, k, rfl⟩ := hvx.shape
  have hnk : qs.length ≤ k := by
    obtain ⟨p, q, a2, n2, k2, e, h⟩ := hk
    simp only [Value.agg.injEq] at e
    have e2 := congrArg Array.toList e
    simp only [List.cons.injEq, Value.slice.injEq, and_true] at e2
    omega
  obtain ⟨n, hn⟩ : ∃ n, n = qs.length := ⟨_, rfl⟩
  have hn4 : n ≤ 4194304 := by rw [hn, hql]; exact Nat.mul_le_mul hr hc
  have hlt : (i + 1) * c ≤ n := by rw [hn, hql]; exact Nat.mul_le_mul_right c (by omega)
  obtain ⟨d, hd⟩ : ∃ d, d = i * c := ⟨_, rfl⟩
  have hd2 : (i + 1) * c = d + c := by rw [hd, Nat.add_mul, Nat.one_mul]
  rw [hd2] at hlt
  have hw1 : IntKind.i64.wrap ((i : Int) * c) = (d : Int) := by rw [hd, ← Int.natCast_mul]; exact IntWalk.i64_in _ (by omega)
  have hw0 : IntKind.i64.wrap ((i : Int) + 1) = ((i + 1 : Nat) : Int) := IntWalk.i64_in _ (by omega)
  obtain ⟨i1, hi1⟩ : ∃ i1, i1 = i + 1 := ⟨_, rfl⟩
  rw [← hi1] at hw0 hd2
  obtain ⟨u, hu⟩ : ∃ u, u = d + c := ⟨_, rfl⟩
  have hw2 : IntKind.i64.wrap ((i1 : Int) * c) = (u : Int) := by rw [hu, ← hd2, ← Int.natCast_mul]; exact IntWalk.i64_in _ (by rw [hd2]; omega)
  rw [← hn] at hnk hvx ⊢
  have k1 : (d : Int) ≤ u := by omega
  have k2 : (u : Int) ≤ k := by omega
  have k3 : (0 : Int) ≤ d := by omega
  have HV := Lib.hid hvx
  have HN := Lib.hid hn
  have HD := Lib.hid hd
  have HE : Hid (c = 0 → ∀ x, VecAt w (.slice x 0 0) (rowV c qs i)) := Lib.hid fun h x => by
    have : rowV c qs i = [] := by unfold rowV; rw [h]; rfl
    rw [this]; exact VecAt.nil w x 0
  have HG : Hid (∀ b off kk, a = some ⟨b, off, none⟩ → VecAt w (.slice (some ⟨b, off + d * 5, none⟩) c kk) (rowV c qs i)) := Lib.hid fun b off kk h => by
    refine ⟨_, kk, by rw [rowV_length], fun t ht => ?_⟩
    rw [rowV_length] at ht
    obtain ⟨a', k', e1, e2⟩ := hvx
    simp only [Value.slice.injEq] at e1
    obtain ⟨b2, off2, e3, e4, e5⟩ := e2 (d + t) (by omega)
    rw [← e1.1, h] at e3
    simp only [Option.some.injEq, Addr.mk.injEq, and_true] at e3
    obtain ⟨rfl, rfl⟩ := e3
    refine ⟨b, off + d * 5, rfl, e4, fun j hj => ?_⟩
    rw [rowV_getD qs i ht, show off + d * 5 + t * 5 + j = off + (d + t) * 5 + j by omega, e5 j hj, hd]; rfl
  clear hd hd2 hn hi1 hvx hql hk
  go_enter Tryz.func116, Tryz.ntmps116
  go_upto_region 1 with fail
  obtain ⟨W1, hW1⟩ : ∃ W1, W1 = w.alloc (.cells #[.int .i64 r, .int .i64 c, .slice a n k] 78) := ⟨_, rfl⟩
  obtain ⟨X, hX⟩ : ∃ X, X = w.heap.size := ⟨_, rfl⟩
  have hin : In w.heap.size w W1 := by rw [hW1]; exact (In.self w).alloc _
  have bx := Bx.new_at w #[.int .i64 r, .int .i64 c, .slice a n k] 78 hX
  rw [← hW1] at bx ⊢
  rw [← hX]
  have x0 := bx.c0
  have x1 := bx.c1
  have x2 := bx.c2
  have xl := bx.lt
  clear hW1 hX
  have h := In.self W1
  have hcc := hc
  have hc := h.cell
  refine wp_region_flow 10 (by kernel_rfl) (by kernel_rfl) (fun _ _ d _ _ h => by cases d <;> exact h) ?_; simp only [List.take_succ_cons, List.take_zero, List.drop_succ_cons, List.drop_zero]; simp only [putAll, Act.put, List.setIfInBounds_toArray, List.set]; (try simp only [Nat.reduceAdd]); (try simp only [Nat.zero_add]); (repeat (first | ((with_reducible refine flow_float (v := ?_) ?_ ?_ ?_); rotate_left 1; (focus (with_reducible rfl)); (focus (intro u w1 hw hd w2; (try simp only [depH] at hd); (try simp only [ext] at hd); (try simp only [extU] at hd); (try simp only [Nat.reduceAdd] at hd); (try simp only [Nat.reduceEqDiff] at hd); (try simp only [reduceIte] at hd); (try simp only [if_true] at hd); (try simp only [if_false] at hd); (try simp only [and_true] at hd); (try simp only [true_and] at hd); go_simp; exact rfl))) | ((with_reducible refine flow_pure0 (v := ?_) ?_ ?_ ?_ ?_); rotate_left 1; (focus (with_reducible rfl)); (focus rfl); (focus (intro u w1 hw hd; (try simp only [depH] at hd); (try simp only [ext] at hd); (try simp only [extU] at hd); (try simp only [Nat.reduceAdd] at hd); (try simp only [Nat.reduceEqDiff] at hd); (try simp only [reduceIte] at hd); (try simp only [if_true] at hd); (try simp only [if_false] at hd); (try simp only [and_true] at hd); (try simp only [true_and] at hd); have hc' := hw.cell; go_simp; exact rfl))) | ((with_reducible refine flow_skipg (j := ?_) (b := ?_) ?_ ?_ ?_); rotate_left 2; (focus (with_reducible rfl)); (focus (intro u w1 hw hd; (try simp only [depH] at hd); (try simp only [ext] at hd); (try simp only [extU] at hd); (try simp only [Nat.reduceAdd] at hd); (try simp only [Nat.reduceEqDiff] at hd); (try simp only [reduceIte] at hd); (try simp only [if_true] at hd); (try simp only [if_false] at hd); (try simp only [and_true] at hd); (try simp only [true_and] at hd); simp [yielded, hd]; done))) | ((with_reducible refine flow_pureg (v := ?_) (j := ?_) (b := ?_) ?_ ?_ ?_ ?_); rotate_left 3; (focus (with_reducible rfl)); (focus (intro u w1 hw hd; (try simp only [depH] at hd); (try simp only [ext] at hd); (try simp only [extU] at hd); (try simp only [Nat.reduceAdd] at hd); (try simp only [Nat.reduceEqDiff] at hd); (try simp only [reduceIte] at hd); (try simp only [if_true] at hd); (try simp only [if_false] at hd); (try simp only [and_true] at hd); (try simp only [true_and] at hd); simp [yielded, hd]; done)); (focus (intro u w1 hw hd; (try simp only [depH] at hd); (try simp only [ext] at hd); (try simp only [extU] at hd); (try simp only [Nat.reduceAdd] at hd); (try simp only [Nat.reduceEqDiff] at hd); (try simp only [reduceIte] at hd); (try simp only [if_true] at hd); (try simp only [if_false] at hd); (try simp only [and_true] at hd); (try simp only [true_and] at hd); have hc' := hw.cell; go_simp; exact rfl))) | ((with_reducible refine flow_alloc (t := ?_) (zs := ?_) ?_ ?_ ?_ ?_); rotate_left 2; (focus (with_reducible rfl)); (focus rfl); (focus (intro u w1; go_simp; exact rfl)))))
  (try clear hc hf h); intro u w' h ha hdi; replace h := h.ins; (try simp only [World.size_alloc] at h); (try dsimp only at ha); (repeat rw [World.size_alloc] at ha); (try simp only [allH] at ha); (try simp only [ext] at ha); (try simp only [extU] at ha); (try simp only [Nat.reduceAdd] at ha); (try simp only [Nat.reduceEqDiff] at ha); (try simp only [reduceIte] at ha); (try simp only [if_true] at ha); (try simp only [if_false] at ha); (try simp only [and_true] at ha); (try simp only [true_and] at ha); have hc := h.cell; have hf := h.frozen
  (try obtain ha := ha); (try dsimp only);  simp only [ha]; clear ha hdi 
  have hin2 := hin.call h.bel
  have bx2 := bx.call h.bel
  clear h hc hf hin bx x0 x1 x2 xl
  have x2 := bx2.c2
  have xl := bx2.lt
  by_cases hn0 : n = 0
  · obtain rfl : c = 0 := by omega
    obtain rfl : d = 0 := by omega
    subst hn0
    have HE2 := Lib.hid (fun x => (HE.out rfl x).call hin2.bel)
    clear HE HG HV HD
    go_wp2_with fail
    all_goals
      go_ret
      first | exact ⟨⟨_, rfl, HE2.out _⟩, hin2.bel⟩ | exact ⟨HE2.out _, hin2.bel⟩
  · obtain ⟨b, off, rfl⟩ : ∃ b off, a = some ⟨b, off, none⟩ := by
      obtain ⟨a', k', e1, e2⟩ := HV.out
      simp only [Value.slice.injEq] at e1
      obtain ⟨b, off, e3, _⟩ := e2 0 (by rw [← HN.out]; omega)
      exact ⟨b, off, e1.1.trans e3⟩
    have HG2 := Lib.hid (fun kk => (HG.out b off kk rfl).call hin2.bel)
    have HE2 := Lib.hid (fun h x => (HE.out h x).call hin2.bel)
    clear HE HG HV
    go_wp2_with fail
    all_goals
      go_ret
      first | exact ⟨⟨_, rfl, HG2.out c⟩, hin2.bel⟩ | exact ⟨⟨.slice (some ⟨b, off, none⟩) 0 0, rfl, (by
          have h0 : c = 0 := by first | assumption | omega
          have h1 := HE2.out h0 (some ⟨b, off, none⟩)
          rw [h0] at h1
          exact h1)⟩, hin2.bel⟩
end Gus
end
section
/- mats.Apply. -/
namespace Gus
open Go Go.RowKit Go.Proofs
set_option maxRecDepth 100000 in
set_option maxHeartbeats 2000000 in
theorem mall_one (w : World) (b r c n k : Nat) (a : Option Addr) (hB : Bx w b 78 [.int .i64 r, .int .i64 c, .slice a n k]) (h1 : checkM r c n = 0) :
    Calls Tryz.prog 106 #[.slice (some ⟨b, 0, none⟩) 1 1] w fun e w' => e = .returned (.int .i64 0) ∧ Below w.heap.size w w' := by
  have c1 := fun W => mcheck_any r c a n k W
  rw [h1] at c1
  have HB := Lib.hid hB
  have hbw := hB.lt
  clear h1 hB
  go_enter Tryz.func106, Tryz.ntmps106
  go_wp2_with fail
  go_loopw [8] (fun v8 wr => ∃ p : Nat, p ≤ 1 ∧ v8 = .int .i64 p ∧ In w.heap.size w wr) (fun v8 _ => 1 - (RowKit.intOf v8).toNat)
  case atStart => exact ⟨0, by decide, rfl, In.self _⟩
  case round =>
    obtain ⟨p, hp, rfl, hin⟩ := hrel
    have hbr : b < wr.heap.size := by have := hin.siz; omega
    have x0 := hin.cell b 0 hbw
    have x1 := hin.cell b 1 hbw
    have x2 := hin.cell b 2 hbw
    rw [HB.out.c0] at x0
    rw [HB.out.c1] at x1
    rw [HB.out.c2] at x2
    match p, hp with
    | 0, _ =>
      go_wp2_with fail
      ((with_reducible refine (c1 _).mono ?_))
      rintro e w2 ⟨rfl, hb⟩
      have hin2 := (hin.alloc (.cells #[.int .i64 r, .int .i64 c, .slice a n k] 78)).call hb
      clear hb hin x0 x1 x2
      go_wp2_with fail
      exact ⟨⟨1, by decide, rfl, hin2⟩, by simp [RowKit.intOf]⟩
    | 1, _ =>
      clear x0 x1 x2
      go_wp2_with fail
      go_ret
      exact ⟨rfl, hin.bel⟩
/-- the product of a dense matrix and a vector -/
def mappL (r c : Nat) (qs ps : List Rat) : List Rat := (List.range r).map fun i => dotV (rowV c qs i) ps c
def VRes (bad : Bool) (L : List Rat) (w : World) (v : Value) (e : Int) : Prop := (bad = true ∧ e = 1 ∧ v = .slice none 0 0) ∨ (bad = false ∧ e = 0 ∧ VecAt w v L)
theorem VRes.call {bad : Bool} {L : List Rat} {w w' : World} {v : Value} {e : Int} (h : VRes bad L w v e) (hb : Below w.heap.size w w') : VRes bad L w' v e := h.imp id fun h => ⟨h.1, h.2.1, h.2.2.call hb⟩
set_option maxRecDepth 100000 in
set_option maxHeartbeats 4000000 in
theorem mapp_any {j l : Nat} (w : World) (x y : Value) (r c m : Nat) (qs ps : List Rat) (hx : MatAt w x r c qs) (hk : CapOk x) (hy : VecAt w y ps) (hl : ps.length = m) (hr : r ≤ 2048) (hc : c ≤ 2048) (hm : m ≤ 2048) (hq : ∀ i, SzK j (qs.getD i 0)) (hp : ∀ i, SzK l (ps.getD i 0)) (hcap : 1 + c * (j + l + 1) < 17592186044416) :
    Calls Tryz.prog 53 #[x, y] w fun e w' => (∃ d e', e = .returned (.tuple #[d, .int .i64 e']) ∧ VRes (!decide (m = c)) (mappL r c qs ps) w' d e') ∧ Below w.heap.size w w' := by
  have k1 : checkM (r : Int) c qs.length = 0 := by rw [hx.len2]; exact checkM_ok hr hc
  have hrow := fun W i (hi : i < r) (hb : Below w.heap.size w W) => mrow2_any W x r c i qs (hx.call hb) hk hi hr hc
  have hdot := fun W (u : Value) i (hu : VecAt W u (rowV c qs i)) (hmc : m = c) (hb : Below w.heap.size w W) => vdot_ok (j := j) (l := l) W u y (rowV c qs i) ps c hu (hy.call hb) (rowV_length c qs i) (hl.trans hmc) hc (fun t => by
    by_cases ht : t < c
    · rw [rowV_getD qs i ht]; exact hq _
    · rw [List.getD_eq_getElem?_getD, List.getElem?_eq_none (by rw [rowV_length]; omega)]
      exact SzK.zero.mono (hq 0).pos) hp hcap
  obtain ⟨a, k, rfl⟩ := hx.shape
  obtain ⟨a', k', rfl⟩ := hy.shape
  rw [hl] at hdot ⊢
  have c1 := fun W b h => mall_one W b r c qs.length k a h k1
  have c2 := fun W b T h => short_one W b m k' T a' h hm
  obtain ⟨n, hn⟩ : ∃ n, n = qs.length := ⟨_, rfl⟩
  rw [← hn] at c1 hrow ⊢
  have hmk := mk_vec r (by omega)
  obtain ⟨fc, hfc⟩ : ∃ fc, fc = fcl (List.replicate r 0) := ⟨_, rfl⟩
  rw [← hfc] at hmk
  have HF := Lib.hid hfc
  obtain ⟨X, hX⟩ : ∃ X, X = w.heap.size := ⟨_, rfl⟩
  have HX := Lib.hid hX
  have HROW := Lib.hid hrow
  have HDOT := Lib.hid hdot
  clear k1 hn hx hy hl hk hq hp hcap hfc hrow hdot
  go_enter Tryz.func53, Tryz.ntmps53
  go_wp2_with fail
  ((with_reducible refine (c1 _ _ ?_).mono ?_))
  · exact Bx.new_at _ _ _ (by simp)
  rintro e w2 ⟨rfl, hb⟩
  have hin := (((In.self w).alloc (.cells #[.int .i64 r, .int .i64 c, .slice a n k] 78)).alloc (.cells #[.int .i64 r, .int .i64 c, .slice a n k] 78)).call hb
  have bx := ((Bx.new_at w #[.int .i64 r, .int .i64 c, .slice a n k] 78 hX).alloc (.cells #[.int .i64 r, .int .i64 c, .slice a n k] 78)).call hb
  rw [← hX]
  clear hX hb c1
  go_wp2_with fail
  ((with_reducible refine (c2 _ _ 97 ?_).mono ?_))
  · exact Bx.new_at _ _ _ rfl
  rintro e w3 ⟨rfl, hb⟩
  replace hin := (hin.alloc (.cells #[.slice a' m k'] 97)).call hb
  replace bx := (bx.alloc (.cells #[.slice a' m k'] 97)).call hb
  clear hb c2
  have x0 := bx.c0
  have x1 := bx.c1
  have xl := bx.lt
  by_cases hmc : m = c
  · have h2 : ((m : Int) != c) = false := by rw [hmc]; simp
    have HMC := Lib.hid hmc
    clear hmc
    go_upto_region 10 with fail
    obtain ⟨g, hg⟩ : ∃ g, g = w3.heap.size := ⟨_, rfl⟩
    have hXg : X < g := by omega
    have bv : VBx (w3.alloc (.cells fc.toArray 56)) g (pv (fun i => dotV (rowV c qs i) ps c) r 0) := by
      have := Bx.new_at w3 fc.toArray 56 hg
      show Bx _ g 56 (fcl _)
      rw [pv_zero, ← HF.out]; exact this
    replace bx := bx.alloc (.cells fc.toArray 56)
    replace hin := hin.alloc (.cells fc.toArray 56)
    rw [← hg]
    clear hg hmk x0 x1 xl h2
    generalize w3.alloc (.cells fc.toArray 56) = W1 at *
    have x0 := bx.c0
    have xl := bx.lt
    go_wp2_with fail
    clear x0 xl
    go_loopw [32] (fun v32 wr => ∃ i : Nat, i ≤ r ∧ v32 = .int .i64 i ∧ In w.heap.size w wr ∧ Bx wr X 78 [.int .i64 r, .int .i64 c, .slice a n k] ∧ VBx wr g (pv (fun i => dotV (rowV c qs i) ps c) r i)) (fun v32 _ => r - (RowKit.intOf v32).toNat)
    case atStart => exact ⟨0, Nat.zero_le _, rfl, hin, bx, bv⟩
    case round =>
      clear hin bx bv
      obtain ⟨i, hi, rfl, hin, bx, bv⟩ := hrel
      by_cases hir : i < r
      · have hiI : (i : Int) < r := by omega
        have hi0 : (0 : Int) ≤ i := by omega
        have hiw : IntKind.i64.wrap ((i : Int) + 1) = ((i + 1 : Nat) : Int) := IntWalk.i64_in _ (by omega)
        have hrow := HROW.out wr i hir hin.bel
        have x0 := bx.c0
        have x1 := bx.c1
        have x2 := bx.c2
        have xl := bx.lt
        go_wp2_with fail
        ((with_reducible refine hrow.mono ?_))
        rintro e w4 ⟨⟨u, rfl, hu⟩, hb⟩
        replace hin := hin.call hb
        replace bx := bx.call hb
        replace bv := bv.call hb
        have hdot := HDOT.out w4 u i hu HMC.out hin.bel
        obtain ⟨q, hq⟩ : ∃ q, q = dotV (rowV c qs i) ps c := ⟨_, rfl⟩
        rw [← hq] at hdot
        have HQ := Lib.hid hq
        clear hq hb hu hrow x0 x1 x2 xl
        go_wp2_with fail
        ((with_reducible refine hdot.mono ?_))
        rintro e w5 ⟨rfl, hb⟩
        have hin3 := hin.call hb
        have bx3 := bx.call hb
        have bv3 := bv.call hb
        have hlt : i < (pv (fun i => dotV (rowV c qs i) ps c) r i).length := by rw [pv_length]; exact hir
        obtain ⟨_, _, _, _, _, _, c0, c1, c2, c3, c4, f0, f1, f2, f3, f4⟩ := VBx.cells bv3 hlt
        have hgl3 := bv3.lt
        have hs := VBx.set bv3 i q hlt
        rw [show (pv (fun i => dotV (rowV c qs i) ps c) r i).set i q = pv (fun i => dotV (rowV c qs i) ps c) r (i + 1) by rw [HQ.out]; exact pv_set _ _ _] at hs
        have H1 := Lib.hid hs
        have H2 := Lib.hid (hin3.put5 (g := g) (by have := HX.out; omega) i q)
        have H4 := Lib.hid (((((bx3.other (a := ⟨g, i * 5, none⟩) (by simp; omega) (.int .u64 (lo q.num.natAbs))).other (a := ⟨g, i * 5 + 1, none⟩) (by simp; omega) (.string (bg q.num.natAbs))).other (a := ⟨g, i * 5 + 2, none⟩) (by simp; omega) (.bool (decide (q.num < 0)))).other (a := ⟨g, i * 5 + 3, none⟩) (by simp; omega) (.int .u64 (lo (q.den - 1)))).other (a := ⟨g, i * 5 + 4, none⟩) (by simp; omega) (.string (bg (q.den - 1))))
        clear hs hin3 bx3 bv3 hin bx bv hb hdot
        go_wp2_with fail
        exact ⟨⟨i + 1, by omega, by go_num, H2.out, H4.out, H1.out⟩, by simp [RowKit.intOf]; omega⟩
      · obtain rfl : i = r := by omega
        have hiI : ¬ (i : Int) < i := by omega
        rw [pv_full] at bv
        have hv : VecAt wr (.slice (some ⟨g, 0, none⟩) i i) (mappL i c qs ps) := VBx.at bv i (by simp) i
        have H1 := Lib.hid hv
        have H2 := Lib.hid hin
        clear bv hin hv bx
        go_wp2_with fail
        exact bodyPost_ret (v := .tuple #[.slice (some ⟨g, 0, none⟩) i i, .int .i64 0]) (by simp [results, Tryz.results53, go_sem]) rfl ⟨⟨_, _, rfl, .inr ⟨by simp [HMC.out], rfl, H1.out⟩⟩, H2.out.bel⟩
  · have h2 : ((m : Int) != c) = true := by
      have : ¬ (m : Int) = c := by omega
      simpa using this
    have HMC : Hid ((!decide (m = c)) = true) := Lib.hid (by simp [hmc])
    clear hmc
    go_wp2_with fail
    exact bodyPost_ret (v := .tuple #[.slice none 0 0, .int .i64 1]) (by simp [results, Tryz.results53, go_sem]) rfl ⟨⟨_, _, rfl, .inl ⟨HMC.out, rfl, rfl⟩⟩, hin.bel⟩
end Gus
end
section
/- mats.Form, mats.Symmetric. -/
namespace Gus
open Go Go.RowKit Go.Proofs
def FRes (bad : Bool) (z : Rat) (v : Value) (e : Int) : Prop := (bad = true ∧ e = 1 ∧ v = zeroFr) ∨ (bad = false ∧ e = 0 ∧ v = fracV z)
theorem mappL_szk {r c j l : Nat} {qs ps : List Rat} (hq : ∀ i, SzK j (qs.getD i 0)) (hp : ∀ i, SzK l (ps.getD i 0)) (i : Nat) : SzK (1 + c * (j + l + 1)) ((mappL r c qs ps).getD i 0) := by
  by_cases hi : i < r
  · rw [mappL, List.getD_eq_getElem?_getD, List.getElem?_map, List.getElem?_range hi]
    refine sumTo_szk (j := j + l) (fun t => ?_) c
    refine SzK.mul ?_ (hp t)
    by_cases ht : t < c
    · rw [rowV_getD qs i ht]; exact hq _
    · rw [List.getD_eq_getElem?_getD, List.getElem?_eq_none (by rw [rowV_length]; omega)]
      exact SzK.zero.mono (hq 0).pos
  · rw [List.getD_eq_getElem?_getD, List.getElem?_eq_none (by simp [mappL]; omega)]
    exact SzK.zero.mono (by omega)
set_option maxRecDepth 100000 in
set_option maxHeartbeats 4000000 in
theorem mform_any {j l : Nat} (w : World) (x y z : Value) (r c m m' : Nat) (qs ps ts : List Rat) (hx : MatAt w x r c qs) (hk : CapOk x) (hy : VecAt w y ps) (hz : VecAt w z ts) (hl : ps.length = m) (hl' : ts.length = m') (hr : r ≤ 2048) (hc : c ≤ 2048) (hm : m ≤ 2048) (hm' : m' ≤ 2048) (hq : ∀ i, SzK j (qs.getD i 0)) (hp : ∀ i, SzK l (ps.getD i 0)) (ht : ∀ i, SzK l (ts.getD i 0)) (hcap : 1 + r * (l + (1 + c * (j + l + 1)) + 1) < 17592186044416) (hcap2 : 1 + c * (j + l + 1) < 17592186044416) :
    Calls Tryz.prog 55 #[x, y, z] w fun e w' => (∃ v e', e = .returned (.tuple #[v, .int .i64 e']) ∧ FRes (!(decide (m = r) && decide (m' = c))) (dotV ps (mappL r c qs ts) r) v e') ∧ Below w.heap.size w w' := by
  have hck := fun W (sa : Option Addr) (k : Nat) => mcheck_any r c sa qs.length k W
  rw [show checkM (r : Int) c qs.length = 0 by rw [hx.len2]; exact checkM_ok hr hc] at hck
  have h3 := fun W (hb : Below w.heap.size w W) => mapp_any (j := j) (l := l) W x z r c m' qs ts (hx.call hb) hk (hz.call hb) hl' hr hc hm' hq ht hcap2
  have h4 := fun W u (hu : VecAt W u (mappL r c qs ts)) (hmr : m = r) (hb : Below w.heap.size w W) => vdot_ok (j := l) (l := 1 + c * (j + l + 1)) W y u ps (mappL r c qs ts) r (hy.call hb) hu (hl.trans hmr) (by simp [mappL]) hr hp (mappL_szk hq ht) hcap
  obtain ⟨a, k, rfl⟩ := hx.shape
  obtain ⟨a', k', rfl⟩ := hy.shape
  obtain ⟨a2, k2, rfl⟩ := hz.shape
  rw [hl] at h4 ⊢
  rw [hl'] at h3 ⊢
  have c2 := fun W b T h => short_two W b m m' k' k2 T a' a2 h hm hm'
  obtain ⟨n, hn⟩ : ∃ n, n = qs.length := ⟨_, rfl⟩
  rw [← hn] at hck h3 ⊢
  obtain ⟨X, hX⟩ : ∃ X, X = w.heap.size := ⟨_, rfl⟩
  have HX := Lib.hid hX
  obtain ⟨zz, hzz⟩ : ∃ z, z = dotV ps (mappL r c qs ts) r := ⟨_, rfl⟩
  rw [← hzz] at h4
  rw [← hzz]
  have H3 := Lib.hid h3
  have H4 := Lib.hid h4
  clear hzz hn hx hy hz hl hl' hk hq hp ht hcap hcap2 h3 h4
  go_enter Tryz.func55, Tryz.ntmps55
  go_wp2_with fail
  ((with_reducible refine (hck _ _ _).mono ?_))
  rintro e w2 ⟨rfl, hb⟩
  have hin := (((In.self w).alloc (.cells #[.int .i64 r, .int .i64 c, .slice a n k] 78)).alloc (.cells #[.int .u64 0, .string ⟨#[]⟩, .bool false, .int .u64 0, .string ⟨#[]⟩] 56)).call hb
  have bx := ((Bx.new_at w #[.int .i64 r, .int .i64 c, .slice a n k] 78 hX).alloc (.cells #[.int .u64 0, .string ⟨#[]⟩, .bool false, .int .u64 0, .string ⟨#[]⟩] 56)).call hb
  have bq := (Bx.new_at (w.alloc (.cells #[.int .i64 r, .int .i64 c, .slice a n k] 78)) #[.int .u64 0, .string ⟨#[]⟩, .bool false, .int .u64 0, .string ⟨#[]⟩] 56 (n := X + 1) (by rw [World.size_alloc, hX])).call hb
  rw [← hX]
  clear hX hb hck
  go_wp2_with fail
  ((with_reducible refine (c2 _ _ 97 ?_).mono ?_))
  · exact Bx.new_at _ _ _ rfl
  rintro e w3 ⟨rfl, hb⟩
  replace hin := (hin.alloc (.cells #[.slice a' m k', .slice a2 m' k2] 97)).call hb
  replace bx := (bx.alloc (.cells #[.slice a' m k', .slice a2 m' k2] 97)).call hb
  replace bq := (bq.alloc (.cells #[.slice a' m k', .slice a2 m' k2] 97)).call hb
  clear hb c2
  have x0 := bx.c0
  have x1 := bx.c1
  have x2 := bx.c2
  have xl := bx.lt
  by_cases hmr : m = r
  · have e1 : ((m : Int) != r) = false := by rw [hmr]; simp
    have HMR := Lib.hid hmr
    clear hmr
    by_cases hmc : m' = c
    · have e2 : ((m' : Int) != c) = false := by rw [hmc]; simp
      have HMC := Lib.hid hmc
      clear hmc
      have h3 := H3.out w3 hin.bel
      go_wp2_with fail
      ((with_reducible refine h3.mono ?_))
      rintro e w4 ⟨⟨d, e', rfl, hd⟩, hb⟩
      replace hin := hin.call hb
      replace bq := bq.call hb
      clear hb h3 x0 x1 x2 xl bx
      rcases hd with ⟨hd, _, _⟩ | ⟨_, rfl, hd⟩
      · rw [HMC.out] at hd; simp at hd
      · have h4 := H4.out w4 d hd HMR.out hin.bel
        obtain ⟨da, dn, dk, rfl⟩ : ∃ a n k, d = .slice a n k := by obtain ⟨a, k, h⟩ := hd.shape; exact ⟨_, _, _, h⟩
        clear hd
        go_wp2_with fail
        ((with_reducible refine h4.mono ?_))
        rintro e w5 ⟨rfl, hb⟩
        replace hin := hin.call hb
        replace bq := bq.call hb
        clear hb h4
        ((obtain ⟨A1, A2, A3, A4, A5, hA⟩ : ∃ A1 A2 A3 A4 A5, fracV zz = .agg #[.int .u64 A1, .string A2, .bool A3, .int .u64 A4, .string A5] := ⟨_, _, _, _, _, rfl⟩);
              ((try rw [hA]));
              (have HA := Lib.hid hA);
              (clear hA);
              (have q0 := bq.c0);
              (have q1 := bq.c1);
              (have q2 := bq.c2);
              (have q3 := bq.c3);
              (have q4 := bq.c4);
              (have f0 := bq.frozen 0);
              (have f1 := bq.frozen 1);
              (have f2 := bq.frozen 2);
              (have f3 := bq.frozen 3);
              (have f4 := bq.frozen 4);
              (have ql := bq.lt);
              (have K1 := Lib.hid ((((((bq.set 0 (.int .u64 A1)).set 1 (.string A2)).set 2 (.bool A3)).set 3 (.int .u64 A4)).set 4 (.string A5))));
              (have K2 := Lib.hid ((((((hin.setCell (p := ⟨(X + 1), 0, none⟩) (by first | (simp; done) | (have := HX.out; simp; omega)) (.int .u64 A1)).setCell (p := ⟨(X + 1), 1, none⟩) (by first | (simp; done) | (have := HX.out; simp; omega)) (.string A2)).setCell (p := ⟨(X + 1), 2, none⟩) (by first | (simp; done) | (have := HX.out; simp; omega)) (.bool A3)).setCell (p := ⟨(X + 1), 3, none⟩) (by first | (simp; done) | (have := HX.out; simp; omega)) (.int .u64 A4)).setCell (p := ⟨(X + 1), 4, none⟩) (by first | (simp; done) | (have := HX.out; simp; omega)) (.string A5))));
              (clear bq hin);
              (go_wp2_with fail);
              (have k1 := K1.out);
              (have k2 := K2.out);
              (clear q0 q1 q2 q3 q4 f0 f1 f2 f3 f4 ql K1 K2);
              (generalize (((((w5.setCell ⟨(X + 1), 0, none⟩ (.int .u64 A1)).setCell ⟨(X + 1), 1, none⟩ (.string A2)).setCell ⟨(X + 1), 2, none⟩ (.bool A3)).setCell ⟨(X + 1), 3, none⟩ (.int .u64 A4)).setCell ⟨(X + 1), 4, none⟩ (.string A5)) = W5 at *);
              (have e0 : W5.cell? ⟨(X + 1), 0, none⟩ = some (.int .u64 A1) := k1.cell 0);
              (have e1 : W5.cell? ⟨(X + 1), 1, none⟩ = some (.string A2) := k1.cell 1);
              (have e2 : W5.cell? ⟨(X + 1), 2, none⟩ = some (.bool A3) := k1.cell 2);
              (have e3 : W5.cell? ⟨(X + 1), 3, none⟩ = some (.int .u64 A4) := k1.cell 3);
              (have e4 : W5.cell? ⟨(X + 1), 4, none⟩ = some (.string A5) := k1.cell 4);
              (have hz := k2.bel);
              (have hA := HA.out);
              (refine bodyPost_ret (v := .tuple #[.agg #[.int .u64 A1, .string A2, .bool A3, .int .u64 A4, .string A5], .int .i64 0]) ?_ rfl ⟨⟨_, _, rfl, .inr ⟨by rw [HMR.out, HMC.out]; simp, rfl, hA.symm⟩⟩, hz⟩);
              (simp [results, Tryz.results55, go_sem, e0, e1, e2, e3, e4]))
    · have e2 : ((m' : Int) != c) = true := by
        have : ¬ (m' : Int) = c := by omega
        simpa using this
      have HB : Hid ((!(decide (m = r) && decide (m' = c))) = true) := Lib.hid (by simp [hmc])
      clear hmc bx
      ((have q0 := bq.c0);
              (have q1 := bq.c1);
              (have q2 := bq.c2);
              (have q3 := bq.c3);
              (have q4 := bq.c4);
              (have f0 := bq.frozen 0);
              (have f1 := bq.frozen 1);
              (have f2 := bq.frozen 2);
              (have f3 := bq.frozen 3);
              (have f4 := bq.frozen 4);
              (have ql := bq.lt);
              (have K1 := Lib.hid ((((((bq.set 0 (.int .u64 0)).set 1 (.string ⟨#[]⟩)).set 2 (.bool false)).set 3 (.int .u64 0)).set 4 (.string ⟨#[]⟩))));
              (have K2 := Lib.hid ((((((hin.setCell (p := ⟨(X + 1), 0, none⟩) (by have := HX.out; simp; omega) (.int .u64 0)).setCell (p := ⟨(X + 1), 1, none⟩) (by have := HX.out; simp; omega) (.string ⟨#[]⟩)).setCell (p := ⟨(X + 1), 2, none⟩) (by have := HX.out; simp; omega) (.bool false)).setCell (p := ⟨(X + 1), 3, none⟩) (by have := HX.out; simp; omega) (.int .u64 0)).setCell (p := ⟨(X + 1), 4, none⟩) (by have := HX.out; simp; omega) (.string ⟨#[]⟩))));
              (clear bq hin);
              (go_wp2_with fail);
              (have k1 := K1.out);
              (have k2 := K2.out);
              (clear q0 q1 q2 q3 q4 f0 f1 f2 f3 f4 ql K1 K2);
              (generalize (((((w3.setCell ⟨(X + 1), 0, none⟩ (.int .u64 0)).setCell ⟨(X + 1), 1, none⟩ (.string ⟨#[]⟩)).setCell ⟨(X + 1), 2, none⟩ (.bool false)).setCell ⟨(X + 1), 3, none⟩ (.int .u64 0)).setCell ⟨(X + 1), 4, none⟩ (.string ⟨#[]⟩)) = W5 at *);
              (have e0 : W5.cell? ⟨(X + 1), 0, none⟩ = some (.int .u64 0) := k1.cell 0);
              (have e1 : W5.cell? ⟨(X + 1), 1, none⟩ = some (.string ⟨#[]⟩) := k1.cell 1);
              (have e2 : W5.cell? ⟨(X + 1), 2, none⟩ = some (.bool false) := k1.cell 2);
              (have e3 : W5.cell? ⟨(X + 1), 3, none⟩ = some (.int .u64 0) := k1.cell 3);
              (have e4 : W5.cell? ⟨(X + 1), 4, none⟩ = some (.string ⟨#[]⟩) := k1.cell 4);
              (have hz := k2.bel);
              (refine bodyPost_ret (v := .tuple #[.agg #[.int .u64 0, .string ⟨#[]⟩, .bool false, .int .u64 0, .string ⟨#[]⟩], .int .i64 1]) ?_ rfl ⟨⟨_, _, rfl, .inl ⟨HB.out, rfl, rfl⟩⟩, hz⟩);
              (simp [results, Tryz.results55, go_sem, e0, e1, e2, e3, e4]))
  · have e1 : ((m : Int) != r) = true := by
      have : ¬ (m : Int) = r := by omega
      simpa using this
    have HB : Hid ((!(decide (m = r) && decide (m' = c))) = true) := Lib.hid (by simp [hmr])
    clear hmr bx
    ((have q0 := bq.c0);
              (have q1 := bq.c1);
              (have q2 := bq.c2);
              (have q3 := bq.c3);
              (have q4 := bq.c4);
              (have f0 := bq.frozen 0);
              (have f1 := bq.frozen 1);
              (have f2 := bq.frozen 2);
              (have f3 := bq.frozen 3);
              (have f4 := bq.frozen 4);
              (have ql := bq.lt);
              (have K1 := Lib.hid ((((((bq.set 0 (.int .u64 0)).set 1 (.string ⟨#[]⟩)).set 2 (.bool false)).set 3 (.int .u64 0)).set 4 (.string ⟨#[]⟩))));
              (have K2 := Lib.hid ((((((hin.setCell (p := ⟨(X + 1), 0, none⟩) (by have := HX.out; simp; omega) (.int .u64 0)).setCell (p := ⟨(X + 1), 1, none⟩) (by have := HX.out; simp; omega) (.string ⟨#[]⟩)).setCell (p := ⟨(X + 1), 2, none⟩) (by have := HX.out; simp; omega) (.bool false)).setCell (p := ⟨(X + 1), 3, none⟩) (by have := HX.out; simp; omega) (.int .u64 0)).setCell (p := ⟨(X + 1), 4, none⟩) (by have := HX.out; simp; omega) (.string ⟨#[]⟩))));
              (clear bq hin);
              (go_wp2_with fail);
              (have k1 := K1.out);
              (have k2 := K2.out);
              (clear q0 q1 q2 q3 q4 f0 f1 f2 f3 f4 ql K1 K2);
              (generalize (((((w3.setCell ⟨(X + 1), 0, none⟩ (.int .u64 0)).setCell ⟨(X + 1), 1, none⟩ (.string ⟨#[]⟩)).setCell ⟨(X + 1), 2, none⟩ (.bool false)).setCell ⟨(X + 1), 3, none⟩ (.int .u64 0)).setCell ⟨(X + 1), 4, none⟩ (.string ⟨#[]⟩)) = W5 at *);
              (have e0 : W5.cell? ⟨(X + 1), 0, none⟩ = some (.int .u64 0) := k1.cell 0);
              (have e1 : W5.cell? ⟨(X + 1), 1, none⟩ = some (.string ⟨#[]⟩) := k1.cell 1);
              (have e2 : W5.cell? ⟨(X + 1), 2, none⟩ = some (.bool false) := k1.cell 2);
              (have e3 : W5.cell? ⟨(X + 1), 3, none⟩ = some (.int .u64 0) := k1.cell 3);
              (have e4 : W5.cell? ⟨(X + 1), 4, none⟩ = some (.string ⟨#[]⟩) := k1.cell 4);
              (have hz := k2.bel);
              (refine bodyPost_ret (v := .tuple #[.agg #[.int .u64 0, .string ⟨#[]⟩, .bool false, .int .u64 0, .string ⟨#[]⟩], .int .i64 1]) ?_ rfl ⟨⟨_, _, rfl, .inl ⟨HB.out, rfl, rfl⟩⟩, hz⟩);
              (simp [results, Tryz.results55, go_sem, e0, e1, e2, e3, e4]))
end Gus
end
section
/- mats.Symmetric, vecs.Same. -/
namespace Gus
open Go Go.RowKit Go.Proofs
set_option maxRecDepth 100000 in
set_option maxHeartbeats 2000000 in
theorem msymm_any (w : World) (x : Value) (r c : Nat) (qs : List Rat) (hx : MatAt w x r c qs) (hr : r ≤ 64) (hc : c ≤ 64) :
    Calls Tryz.prog 57 #[x] w fun e w' => e = .returned (.bool (sameD r c qs c r (dense c r fun k i => mvals c qs i k))) ∧ Below w.heap.size w w' := by
  have h1 := fun W (hb : Below w.heap.size w W) => mturn_any W x r c qs (hx.call hb) (by omega) (by omega)
  have h2 := fun W t (ht : MatAt W t c r (dense c r fun k i => mvals c qs i k)) (hb : Below w.heap.size w W) => msame_any W x t r c c r qs _ (hx.call hb) ht (by rw [hx.len2]; have := Nat.mul_le_mul hr hc; omega)
  obtain ⟨z, hz⟩ : ∃ z, z = sameD r c qs c r (dense c r fun k i => mvals c qs i k) := ⟨_, rfl⟩
  rw [← hz] at h2 ⊢
  obtain ⟨a, k, rfl⟩ := hx.shape
  obtain ⟨n, hn⟩ : ∃ n, n = qs.length := ⟨_, rfl⟩
  rw [← hn] at h1 h2 ⊢
  obtain ⟨X, hX⟩ : ∃ X, X = w.heap.size := ⟨_, rfl⟩
  have HX := Lib.hid hX
  clear hn hx hz
  go_enter Tryz.func57, Tryz.ntmps57
  go_wp2_with fail
  ((with_reducible refine (h1 _ ?_).mono ?_))
  · exact ((In.self w).alloc _).bel
  rintro e w2 ⟨⟨d, e', rfl, hd⟩, hb⟩
  obtain ⟨he0, hd3⟩ : e' = 0 ∧ MatAt w2 d c r (dense c r fun k i => mvals c qs i k) := by
    rcases hd.2 with ⟨hf, _, _⟩ | ⟨_, h1, h2⟩
    · cases hf
    · exact ⟨h1, h2⟩
  subst he0
  clear hd
  have hd := hd3
  clear hd3
  have hin := ((In.self w).alloc (.cells #[.int .i64 r, .int .i64 c, .slice a n k] 78)).call hb
  have bx := (Bx.new_at w #[.int .i64 r, .int .i64 c, .slice a n k] 78 hX).call hb
  obtain ⟨da, dk, rfl⟩ := hd.shape
  rw [dense_length] at hd ⊢
  obtain ⟨m, hm⟩ : ∃ m, m = c * r := ⟨_, rfl⟩
  rw [← hm] at hd ⊢
  rw [← hX]
  clear hX hb h1 hm
  go_upto_region 2 with fail
  obtain ⟨Z, hZ⟩ : ∃ Z, Z = w2.heap.size := ⟨_, rfl⟩
  have bd := Bx.new_at w2 #[.int .i64 c, .int .i64 r, .slice da m dk] 78 hZ
  have hin2 := hin.alloc (.cells #[.int .i64 c, .int .i64 r, .slice da m dk] 78)
  have bx2 := bx.alloc (.cells #[.int .i64 c, .int .i64 r, .slice da m dk] 78)
  have hd2 := hd.call ((Below.refl _ _).alloc (Nat.le_refl _) (.cells #[.int .i64 c, .int .i64 r, .slice da m dk] 78))
  rw [← hZ]
  clear hZ hin bx hd
  generalize w2.alloc (.cells #[.int .i64 c, .int .i64 r, .slice da m dk] 78) = W3 at *
  have x0 := bx2.c0
  have x1 := bx2.c1
  have x2 := bx2.c2
  have xl := bx2.lt
  have d0 := bd.c0
  have d1 := bd.c1
  have d2 := bd.c2
  have dl := bd.lt
  go_wp2_with fail
  ((with_reducible refine (h2 _ _ hd2 hin2.bel).mono ?_))
  rintro e w5 ⟨rfl, hb⟩
  have hin5 := hin2.call hb
  clear hin2 bd bx2 hd2 hb h2 d0 d1 d2 dl x0 x1 x2 xl
  go_wp2_with fail
  go_ret
  exact ⟨rfl, hin5.bel⟩
set_option maxRecDepth 100000 in
set_option maxHeartbeats 2000000 in
theorem equalV_any (w : World) (v1 v2 : Value) (es1 es2 : List Rat) (h1 : VecAt w v1 es1) (h2 : VecAt w v2 es2) (hl : es1.length ≤ 4096) :
    Calls Tryz.prog 117 #[v1, v2] w fun e w' => e = .returned (.bool (decide (es1 = es2))) ∧ Below w.heap.size w w' := by
  have H1 := Lib.hid h1
  have H2 := Lib.hid h2
  obtain ⟨a1, c1, rfl⟩ := h1.shape
  obtain ⟨a2, c2, rfl⟩ := h2.shape
  obtain ⟨L, hL⟩ : ∃ L, L = es1.length := ⟨_, rfl⟩
  obtain ⟨M, hM⟩ : ∃ M, M = es2.length := ⟨_, rfl⟩
  rw [← hL] at hl ⊢
  rw [← hM]
  by_cases hLM : L = M
  · have hne : ((L : Int) != M) = false := by simp [hLM]
    obtain ⟨r, hr⟩ : ∃ r, r = decide (es1 = es2) := ⟨_, rfl⟩
    rw [← hr]
    have HR : Hid (r = decide (es1.drop 0 = es2.drop 0)) := Lib.hid hr
    have HL := Lib.hid hL
    have HM := Lib.hid hM
    have HLM := Lib.hid hLM
    clear hL hM hLM hr
    go_enter Tryz.func117, Tryz.ntmps117
    go_wp2_with fail
    go_loopw [13] (fun v13 wr => ∃ j : Nat, j ≤ L ∧ v13 = .int .i64 j ∧ Below w.heap.size w wr ∧ Hid (r = decide (es1.drop j = es2.drop j))) (fun v13 _ => L - (RowKit.intOf v13).toNat)
    case atStart => exact ⟨0, Nat.zero_le _, rfl, Below.refl _ _, HR⟩
    case round =>
      clear HR
      obtain ⟨j, hj, rfl, hbel, HR⟩ := hrel
      by_cases hjL : j < L
      · have hd1 := drop_getD es1 0 (show j < es1.length by rw [← HL.out]; exact hjL)
        have hd2 := drop_getD es2 0 (show j < es2.length by rw [← HM.out, ← HLM.out]; exact hjL)
        obtain ⟨b1, o1, k1, A1, A2, A3, A4, A5, hv1, hb1, _, hf1, x0, x1, x2, x3, x4⟩ := (H1.out.call hbel).at (i := j) (by rw [← HL.out]; exact hjL)
        obtain ⟨b2, o2, k2, B1, B2, B3, B4, B5, hv2, hb2, _, hf2, y0, y1, y2, y3, y4⟩ := (H2.out.call hbel).at (i := j) (by rw [← HM.out, ← HLM.out]; exact hjL)
        simp only [Value.slice.injEq] at hv1 hv2
        obtain ⟨rfl, _, hk1⟩ := hv1
        obtain ⟨rfl, _, hk2⟩ := hv2
        subst hk1 hk2
        obtain ⟨e1, he1⟩ : ∃ e, e = es1.getD j 0 := ⟨_, rfl⟩
        obtain ⟨e2, he2⟩ : ∃ e, e = es2.getD j 0 := ⟨_, rfl⟩
        have hneq := fun W => fracNeq_run e1 e2 W
        have hr := HR.out
        rw [hd1, hd2, ← he1, ← he2] at hr
        rw [← he1] at hf1
        rw [← he2] at hf2
        rw [hf1, hf2] at hneq
        have hjI : (j : Int) < L := by omega
        have hjM : (j : Int) < M := by have := HLM.out; omega
        have hj0 : (0 : Int) ≤ j := by omega
        have hjw : IntKind.i64.wrap ((j : Int) + 1) = ((j + 1 : Nat) : Int) := IntWalk.i64_in _ (by omega)
        clear hd1 hd2 HR
        by_cases heq : e1 = e2
        · rw [show (!decide (e1 = e2)) = false by simp [heq]] at hneq
          have hr2 : r = decide (es1.drop (j + 1) = es2.drop (j + 1)) := by rw [hr, heq]; simp
          have HR2 := Lib.hid hr2
          clear hr2 hr heq he1 he2 hf1 hf2
          go_upto_region 6 with fail
          have h := In.self wr
          have hc := h.cell
          refine wp_region_flow 8 (by kernel_rfl) (by kernel_rfl) (fun _ _ d _ _ h => by cases d <;> exact h) ?_; simp only [List.take_succ_cons, List.take_zero, List.drop_succ_cons, List.drop_zero]; simp only [putAll, Act.put, List.setIfInBounds_toArray, List.set]; (try simp only [Nat.reduceAdd]); (try simp only [Nat.zero_add]); (repeat (first | ((with_reducible refine flow_float (v := ?_) ?_ ?_ ?_); rotate_left 1; (focus (with_reducible rfl)); (focus (intro u w1 hw hd w2; (try simp only [depH] at hd); (try simp only [ext] at hd); (try simp only [extU] at hd); (try simp only [Nat.reduceAdd] at hd); (try simp only [Nat.reduceEqDiff] at hd); (try simp only [reduceIte] at hd); (try simp only [if_true] at hd); (try simp only [if_false] at hd); (try simp only [and_true] at hd); (try simp only [true_and] at hd); go_simp; exact rfl))) | ((with_reducible refine flow_pure0 (v := ?_) ?_ ?_ ?_ ?_); rotate_left 1; (focus (with_reducible rfl)); (focus rfl); (focus (intro u w1 hw hd; (try simp only [depH] at hd); (try simp only [ext] at hd); (try simp only [extU] at hd); (try simp only [Nat.reduceAdd] at hd); (try simp only [Nat.reduceEqDiff] at hd); (try simp only [reduceIte] at hd); (try simp only [if_true] at hd); (try simp only [if_false] at hd); (try simp only [and_true] at hd); (try simp only [true_and] at hd); have hc' := hw.cell; go_simp; exact rfl))) | ((with_reducible refine flow_skipg (j := ?_) (b := ?_) ?_ ?_ ?_); rotate_left 2; (focus (with_reducible rfl)); (focus (intro u w1 hw hd; (try simp only [depH] at hd); (try simp only [ext] at hd); (try simp only [extU] at hd); (try simp only [Nat.reduceAdd] at hd); (try simp only [Nat.reduceEqDiff] at hd); (try simp only [reduceIte] at hd); (try simp only [if_true] at hd); (try simp only [if_false] at hd); (try simp only [and_true] at hd); (try simp only [true_and] at hd); simp [yielded, hd]; done))) | ((with_reducible refine flow_pureg (v := ?_) (j := ?_) (b := ?_) ?_ ?_ ?_ ?_); rotate_left 3; (focus (with_reducible rfl)); (focus (intro u w1 hw hd; (try simp only [depH] at hd); (try simp only [ext] at hd); (try simp only [extU] at hd); (try simp only [Nat.reduceAdd] at hd); (try simp only [Nat.reduceEqDiff] at hd); (try simp only [reduceIte] at hd); (try simp only [if_true] at hd); (try simp only [if_false] at hd); (try simp only [and_true] at hd); (try simp only [true_and] at hd); simp [yielded, hd]; done)); (focus (intro u w1 hw hd; (try simp only [depH] at hd); (try simp only [ext] at hd); (try simp only [extU] at hd); (try simp only [Nat.reduceAdd] at hd); (try simp only [Nat.reduceEqDiff] at hd); (try simp only [reduceIte] at hd); (try simp only [if_true] at hd); (try simp only [if_false] at hd); (try simp only [and_true] at hd); (try simp only [true_and] at hd); have hc' := hw.cell; go_simp; exact rfl))) | ((with_reducible refine flow_alloc (t := ?_) (zs := ?_) ?_ ?_ ?_ ?_); rotate_left 2; (focus (with_reducible rfl)); (focus rfl); (focus (intro u w1; go_simp; exact rfl)))))
          (try clear hc hf h); intro u w' h ha hdi; replace h := h.ins; (try simp only [World.size_alloc] at h); (try dsimp only at ha); (repeat rw [World.size_alloc] at ha); (try simp only [allH] at ha); (try simp only [ext] at ha); (try simp only [extU] at ha); (try simp only [Nat.reduceAdd] at ha); (try simp only [Nat.reduceEqDiff] at ha); (try simp only [reduceIte] at ha); (try simp only [if_true] at ha); (try simp only [if_false] at ha); (try simp only [and_true] at ha); (try simp only [true_and] at ha); have hc := h.cell; have hf := h.frozen
          (try obtain ha := ha); (try dsimp only);  simp only [ha]; clear ha hdi 
          have hbel2 := hbel.trans (h.bel.mono hbel.size)
          clear hc hf h
          go_wp2_with fail
          exact ⟨⟨j + 1, by omega, by go_num, hbel2, HR2⟩, by simp [RowKit.intOf]; omega⟩
        · rw [show (!decide (e1 = e2)) = true by simp [heq]] at hneq
          have hr2 : r = false := by rw [hr]; simp [heq]
          subst hr2
          clear hr heq he1 he2 hf1 hf2
          go_upto_region 6 with fail
          have h := In.self wr
          have hc := h.cell
          refine wp_region_flow 8 (by kernel_rfl) (by kernel_rfl) (fun _ _ d _ _ h => by cases d <;> exact h) ?_; simp only [List.take_succ_cons, List.take_zero, List.drop_succ_cons, List.drop_zero]; simp only [putAll, Act.put, List.setIfInBounds_toArray, List.set]; (try simp only [Nat.reduceAdd]); (try simp only [Nat.zero_add]); (repeat (first | ((with_reducible refine flow_float (v := ?_) ?_ ?_ ?_); rotate_left 1; (focus (with_reducible rfl)); (focus (intro u w1 hw hd w2; (try simp only [depH] at hd); (try simp only [ext] at hd); (try simp only [extU] at hd); (try simp only [Nat.reduceAdd] at hd); (try simp only [Nat.reduceEqDiff] at hd); (try simp only [reduceIte] at hd); (try simp only [if_true] at hd); (try simp only [if_false] at hd); (try simp only [and_true] at hd); (try simp only [true_and] at hd); go_simp; exact rfl))) | ((with_reducible refine flow_pure0 (v := ?_) ?_ ?_ ?_ ?_); rotate_left 1; (focus (with_reducible rfl)); (focus rfl); (focus (intro u w1 hw hd; (try simp only [depH] at hd); (try simp only [ext] at hd); (try simp only [extU] at hd); (try simp only [Nat.reduceAdd] at hd); (try simp only [Nat.reduceEqDiff] at hd); (try simp only [reduceIte] at hd); (try simp only [if_true] at hd); (try simp only [if_false] at hd); (try simp only [and_true] at hd); (try simp only [true_and] at hd); have hc' := hw.cell; go_simp; exact rfl))) | ((with_reducible refine flow_skipg (j := ?_) (b := ?_) ?_ ?_ ?_); rotate_left 2; (focus (with_reducible rfl)); (focus (intro u w1 hw hd; (try simp only [depH] at hd); (try simp only [ext] at hd); (try simp only [extU] at hd); (try simp only [Nat.reduceAdd] at hd); (try simp only [Nat.reduceEqDiff] at hd); (try simp only [reduceIte] at hd); (try simp only [if_true] at hd); (try simp only [if_false] at hd); (try simp only [and_true] at hd); (try simp only [true_and] at hd); simp [yielded, hd]; done))) | ((with_reducible refine flow_pureg (v := ?_) (j := ?_) (b := ?_) ?_ ?_ ?_ ?_); rotate_left 3; (focus (with_reducible rfl)); (focus (intro u w1 hw hd; (try simp only [depH] at hd); (try simp only [ext] at hd); (try simp only [extU] at hd); (try simp only [Nat.reduceAdd] at hd); (try simp only [Nat.reduceEqDiff] at hd); (try simp only [reduceIte] at hd); (try simp only [if_true] at hd); (try simp only [if_false] at hd); (try simp only [and_true] at hd); (try simp only [true_and] at hd); simp [yielded, hd]; done)); (focus (intro u w1 hw hd; (try simp only [depH] at hd); (try simp only [ext] at hd); (try simp only [extU] at hd); (try simp only [Nat.reduceAdd] at hd); (try simp only [Nat.reduceEqDiff] at hd); (try simp only [reduceIte] at hd); (try simp only [if_true] at hd); (try simp only [if_false] at hd); (try simp only [and_true] at hd); (try simp only [true_and] at hd); have hc' := hw.cell; go_simp; exact rfl))) | ((with_reducible refine flow_alloc (t := ?_) (zs := ?_) ?_ ?_ ?_ ?_); rotate_left 2; (focus (with_reducible rfl)); (focus rfl); (focus (intro u w1; go_simp; exact rfl)))))
          (try clear hc hf h); intro u w' h ha hdi; replace h := h.ins; (try simp only [World.size_alloc] at h); (try dsimp only at ha); (repeat rw [World.size_alloc] at ha); (try simp only [allH] at ha); (try simp only [ext] at ha); (try simp only [extU] at ha); (try simp only [Nat.reduceAdd] at ha); (try simp only [Nat.reduceEqDiff] at ha); (try simp only [reduceIte] at ha); (try simp only [if_true] at ha); (try simp only [if_false] at ha); (try simp only [and_true] at ha); (try simp only [true_and] at ha); have hc := h.cell; have hf := h.frozen
          (try obtain ha := ha); (try dsimp only);  simp only [ha]; clear ha hdi 
          have hbel2 := hbel.trans (h.bel.mono hbel.size)
          clear hc hf h
          go_wp2_with fail
          go_ret
          exact ⟨rfl, hbel2⟩
      · have hr := HR.out
        rw [List.drop_eq_nil_of_le (by rw [← HL.out]; omega), List.drop_eq_nil_of_le (by rw [← HM.out, ← HLM.out]; omega)] at hr
        have hr2 : r = true := by rw [hr]; rfl
        subst hr2
        have hjI : ¬ (j : Int) < L := by omega
        clear hr HR
        go_wp2_with fail
        go_ret
        exact ⟨rfl, hbel⟩
  · have hne : ((L : Int) != M) = true := by
      have : ¬ (L : Int) = M := by omega
      simpa using this
    rw [show decide (es1 = es2) = false from decide_eq_false fun e => hLM (by rw [hL, hM, e])]
    clear hL hM hLM
    go_enter Tryz.func117, Tryz.ntmps117
    go_wp2_with fail
    go_ret
    exact ⟨rfl, Below.refl _ _⟩
theorem vsame_any (w : World) (v1 v2 : Value) (es1 es2 : List Rat) (h1 : VecAt w v1 es1) (h2 : VecAt w v2 es2) (hl : es1.length ≤ 4096) :
    Calls Tryz.prog 56 #[v1, v2] w fun e w' => e = .returned (.bool (decide (es1 = es2))) ∧ Below w.heap.size w w' := by
  have h := equalV_any w v1 v2 es1 es2 h1 h2 hl
  obtain ⟨z, hz⟩ : ∃ z, z = decide (es1 = es2) := ⟨_, rfl⟩
  rw [← hz] at h ⊢
  obtain ⟨a1, c1, rfl⟩ := h1.shape
  obtain ⟨a2, c2, rfl⟩ := h2.shape
  clear h1 h2 hl hz
  go_enter Tryz.func56, Tryz.ntmps56
  go_wp2_with fail
  ((with_reducible refine h.mono ?_))
  rintro e w' ⟨rfl, hb⟩
  clear h
  go_wp2_with fail
  go_ret
  exact ⟨rfl, hb⟩
end Gus
end
section
/- Sums, products and transposes of sparse and dense matrices agree. -/
namespace Gus
open Go Go.RowKit Go.Proofs
theorem sumRow_append (qs : List Rat) (i : Nat) : ∀ (A B : List (Nat × Nat × Rat)), sumRow qs (A ++ B) i = sumRow qs A i + sumRow qs B i
  | [], B => by simp [sumRow, Rat.zero_add]
  | x :: A, B => by rw [List.cons_append, sumRow, sumRow, sumRow_append qs i A B, Rat.add_assoc]
theorem sumRow_zero {qs : List Rat} {i : Nat} : ∀ {L : List (Nat × Nat × Rat)}, (∀ x ∈ L, x.1 ≠ i) → sumRow qs L i = 0
  | [], _ => rfl
  | x :: L, h => by rw [sumRow, if_neg (h x (.head _)), sumRow_zero (fun y hy => h y (List.mem_cons_of_mem _ hy)), Rat.zero_add]
theorem rowOf_succ (g : Nat → Rat) (n : Nat) : rowOf g (n + 1) = rowOf g n ++ if g n = 0 then [] else [(n, g n)] := by
  unfold rowOf
  rw [List.range_succ, List.filter_append, List.map_append]
  congr 1
  by_cases h : g n = 0 <;> simp [h]
theorem sumRow_row (qs : List Rat) (g : Nat → Rat) (i : Nat) : ∀ n, sumRow qs ((rowOf g n).map fun e => (i, e.1, e.2)) i = sumTo (fun k => g k * qs.getD k 0) n
  | 0 => rfl
  | n + 1 => by
    rw [rowOf_succ, List.map_append, sumRow_append, sumRow_row qs g i n, sumTo]
    congr 1
    by_cases h : g n = 0
    · rw [if_pos h, h, Rat.zero_mul]; rfl
    · rw [if_neg h]
      simp only [List.map_cons, List.map_nil, sumRow, if_true, Rat.add_zero]
theorem items_succ (r c : Nat) (f : Nat → Nat → Rat) : items (r + 1) c f = items r c f ++ (rowOf (f r) c).map fun e => (r, e.1, e.2) := by
  unfold items
  rw [mrows_succ, itemsF_append, mrows_length, Nat.zero_add]
  simp only [itemsF, List.append_nil]
theorem sumRow_items (qs : List Rat) (c : Nat) (f : Nat → Nat → Rat) {i : Nat} : ∀ r, i < r → sumRow qs (items r c f) i = sumTo (fun k => f i k * qs.getD k 0) c
  | 0, h => absurd h (Nat.not_lt_zero _)
  | r + 1, h => by
    rw [items_succ, sumRow_append]
    by_cases hi : i = r
    · subst hi
      rw [sumRow_zero (L := items i c f) (fun ⟨a, b, q⟩ hx e => by
        have := (mem_items.1 hx).1
        simp only at e; omega), Rat.zero_add, sumRow_row]
    · rw [sumRow_items qs c f r (by omega), sumRow_zero (L := (rowOf (f r) c).map _) (fun x hx e => by
        obtain ⟨y, _, rfl⟩ := List.mem_map.1 hx
        exact hi e.symm), Rat.add_zero]
/-- the sparse product with a vector is the dense one -/
theorem app_eq (r c : Nat) (xs ps : List Rat) : appL r c (mvals c xs) ps = mappL r c xs ps := by
  unfold appL mappL
  refine List.map_congr_left fun i hi => ?_
  rw [sumRow_items ps c _ r (List.mem_range.1 hi), dotV]
  exact sumTo_congr c fun k hk => by rw [rowV_getD xs i hk]
/-- what an entry of the first matrix adds to a product -/
def mulL (c' : Nat) (g : Nat → Nat → Rat) (x : Nat × Nat × Rat) : List (Nat × Nat × Rat) := (rowOf (g x.2.1) c').map fun e => (x.1, e.1, x.2.2 * e.2)
theorem mulL_length (c' : Nat) (g : Nat → Nat → Rat) (x : Nat × Nat × Rat) : (mulL c' g x).length ≤ c' := by
  unfold mulL; rw [List.length_map]; exact rowOf_length _ _
theorem sumAt_mulL (c' : Nat) (g : Nat → Nat → Rat) (a k i m : Nat) (v : Rat) (hm : m < c') : sumAt (mulL c' g (a, k, v)) i m = if a = i then v * g k m else 0 := by
  by_cases h : a = i
  · subst h
    rw [if_pos rfl]
    by_cases hz : g k m = 0
    · rw [hz, Rat.mul_zero]
      refine sumAt_zero ?_
      rintro x hx ⟨_, e2⟩
      obtain ⟨⟨y, q⟩, hy, rfl⟩ := List.mem_map.1 hx
      have := mem_rowOf.1 hy
      simp only at e2
      subst e2
      exact this.2.1 hz
    · refine sumAt_once ?_ (List.mem_map.2 ⟨(m, g k m), mem_rowOf.2 ⟨hm, hz, rfl⟩, rfl⟩)
      unfold mulL
      rw [List.pairwise_map]
      exact (asc_onc (rowOf_asc _ _)).imp fun hn e => hn e.2
  · rw [if_neg h]
    refine sumAt_zero ?_
    rintro x hx ⟨e1, _⟩
    obtain ⟨y, _, rfl⟩ := List.mem_map.1 hx
    exact h e1
theorem sumAt_flat (c' : Nat) (g : Nat → Nat → Rat) (i m : Nat) (hm : m < c') (qs : List Rat) : ∀ (L : List (Nat × Nat × Rat)), (∀ x ∈ L, qs.getD x.2.1 0 = g x.2.1 m) → sumAt (L.flatMap (mulL c' g)) i m = sumRow qs L i
  | [], _ => rfl
  | (a, k, v) :: L, h => by
    rw [List.flatMap_cons, sumAt_append, sumAt_mulL c' g a k i m v hm, sumRow, sumAt_flat c' g i m hm qs L (fun x hx => h x (List.mem_cons_of_mem _ hx))]
    have := h _ (.head _)
    simp only at this ⊢
    rw [this]
/-- the sparse product is the dense one -/
theorem mul_sum (r c c' : Nat) (f g : Nat → Nat → Rat) {i m : Nat} (hi : i < r) (hm : m < c') : foldA (fun _ _ => 0) ((items r c f).flatMap (mulL c' g)) i m = mulF c f g i m := by
  have hq : ∀ k, k < c → ((List.range c).map fun k => g k m).getD k 0 = g k m := fun k hk => by
    rw [List.getD_eq_getElem?_getD, List.getElem?_map, List.getElem?_range hk]; rfl
  rw [foldA_at, Rat.zero_add, sumAt_flat c' g i m hm ((List.range c).map fun k => g k m) _ (fun ⟨a, k, q⟩ hx => hq k (mem_items.1 hx).2.1), sumRow_items _ c f r hi]
  exact sumTo_congr c fun k hk => by rw [hq k hk]
theorem scale_sum (r c : Nat) (f : Nat → Nat → Rat) (s : Rat) {i k : Nat} (hi : i < r) (hk : k < c) : foldA (fun _ _ => 0) ((items r c f).map fun x => (x.1, x.2.1, s * x.2.2)) i k = s * f i k := by
  rw [foldA_at, Rat.zero_add]
  exact sumAt_items (r := r) (c := c) (f := f) (fun a b => (a, b)) (fun _ _ q => s * q) (fun _ _ _ _ e => ⟨congrArg Prod.fst e, congrArg Prod.snd e⟩) i k hi hk (Rat.mul_zero _)
theorem add_sum (r c : Nat) (f g : Nat → Nat → Rat) {i k : Nat} (hi : i < r) (hk : k < c) : foldA (foldA (fun _ _ => 0) (items r c f)) (items r c g) i k = f i k + g i k := by
  rw [foldA_at, foldA_items r c f hi hk]
  congr 1
  have := sumAt_items (r := r) (c := c) (f := g) (fun a b => (a, b)) (fun _ _ q => q) (fun _ _ _ _ e => ⟨congrArg Prod.fst e, congrArg Prod.snd e⟩) i k hi hk rfl
  simpa using this
theorem mvals_dense {r c : Nat} (f : Nat → Nat → Rat) {i k : Nat} (hi : i < r) (hk : k < c) : mvals c (dense r c f) i k = f i k := by
  have h : i * c + k < r * c := by
    have := Nat.mul_le_mul_right c (Nat.succ_le_of_lt hi)
    rw [Nat.succ_mul] at this; omega
  rw [mvals, dense, List.getD_eq_getElem?_getD, List.getElem?_map, List.getElem?_range h]
  show f ((i * c + k) / c) ((i * c + k) % c) = _
  rw [(pos_of hk).1, (pos_of hk).2]
theorem sym_eq (r c : Nat) (xs : List Rat) (h : xs.length = r * c) : sameM r c (mvals c xs) c r (fun k i => mvals c xs i k) = sameD r c xs c r (dense c r fun k i => mvals c xs i k) := by
  rw [← same_dense h (dense_length c r _)]
  unfold sameM gRows
  rw [mrows_congr (f := mvals r (dense c r fun k i => mvals c xs i k)) fun k i hk hi => mvals_dense _ hk hi]
end Gus
end
section
/- sparses.all of two valid matrices; builders filled by several values for every entry. -/
namespace Gus
open Go Go.RowKit Go.Proofs
set_option maxRecDepth 100000 in
set_option maxHeartbeats 2000000 in
theorem sall_two (w : World) (b r c r' c' k k' : Nat) (a a' : Option Addr) (f g : Nat → Nat → Rat) (hB : Bx w b 63 [.int .i64 r, .int .i64 c, .slice a r k, .int .i64 r', .int .i64 c', .slice a' r' k']) (h1 : SpM w (.agg #[.int .i64 r, .int .i64 c, .slice a r k]) r c f) (h2 : SpM w (.agg #[.int .i64 r', .int .i64 c', .slice a' r' k']) r' c' g) (hr : r ≤ 2048) (hc : c ≤ 2048) (hr' : r' ≤ 2048) (hc' : c' ≤ 2048) :
    Calls Tryz.prog 101 #[.slice (some ⟨b, 0, none⟩) 2 2] w fun e w' => e = .returned (.int .i64 0) ∧ Below w.heap.size w w' := by
  have c1 := fun W (hb : Below w.heap.size w W) => scheck_ok (h1.call hb) hr hc
  have c2 := fun W (hb : Below w.heap.size w W) => scheck_ok (h2.call hb) hr' hc'
  have HB := Lib.hid hB
  have hbw := hB.lt
  clear h1 h2 hB
  go_enter Tryz.func101, Tryz.ntmps101
  go_wp2_with fail
  go_loopw [8] (fun v8 wr => ∃ p : Nat, p ≤ 2 ∧ v8 = .int .i64 p ∧ In w.heap.size w wr) (fun v8 _ => 2 - (RowKit.intOf v8).toNat)
  case atStart => exact ⟨0, by decide, rfl, In.self _⟩
  case round =>
    obtain ⟨p, hp, rfl, hin⟩ := hrel
    have hbr : b < wr.heap.size := by have := hin.siz; omega
    have x0 := hin.cell b 0 hbw
    have x1 := hin.cell b 1 hbw
    have x2 := hin.cell b 2 hbw
    have x3 := hin.cell b 3 hbw
    have x4 := hin.cell b 4 hbw
    have x5 := hin.cell b 5 hbw
    rw [HB.out.c0] at x0
    rw [HB.out.c1] at x1
    rw [HB.out.c2] at x2
    rw [HB.out.c3] at x3
    rw [HB.out.c4] at x4
    rw [HB.out.c5] at x5
    match p, hp with
    | 0, _ =>
      go_wp2_with fail
      ((with_reducible refine (c1 _ ?_).mono ?_))
      · exact (hin.alloc _).bel
      rintro e w2 ⟨rfl, hb⟩
      have hin2 := (hin.alloc (.cells #[.int .i64 r, .int .i64 c, .slice a r k] 63)).call hb
      clear hb hin x0 x1 x2 x3 x4 x5
      go_wp2_with fail
      exact ⟨⟨1, by decide, rfl, hin2⟩, by simp [RowKit.intOf]⟩
    | 1, _ =>
      go_wp2_with fail
      ((with_reducible refine (c2 _ ?_).mono ?_))
      · exact (hin.alloc _).bel
      rintro e w2 ⟨rfl, hb⟩
      have hin2 := (hin.alloc (.cells #[.int .i64 r', .int .i64 c', .slice a' r' k'] 63)).call hb
      clear hb hin x0 x1 x2 x3 x4 x5
      go_wp2_with fail
      exact ⟨⟨2, by decide, rfl, hin2⟩, by simp [RowKit.intOf]⟩
    | 2, _ =>
      clear x0 x1 x2 x3 x4 x5
      go_wp2_with fail
      go_ret
      exact ⟨rfl, hin.bel⟩
theorem SzK_foldAs {j : Nat} : ∀ (L : List (Nat × Nat × Rat)) {s : Nat} {f : Nat → Nat → Rat}, (∀ a c, SzK s (f a c)) → (∀ x ∈ L, SzK j x.2.2) → ∀ a c, SzK (s + L.length * (j + 1)) (foldA f L a c)
  | [], s, f, hf, _, a, c => (hf a c).mono (by simp)
  | x :: L, s, f, hf, hx, a, c => by
    refine (SzK_foldAs L (f := addF f x) (SzK_foldA hf (hx _ (.head _))) (fun y hy => hx y (List.mem_cons_of_mem _ hy)) a c).mono ?_
    rw [List.length_cons, Nat.succ_mul]; omega
/-- a builder filled by a function that adds several values for every entry -/
theorem each_buildL (w0 w : World) (v : Value) (r c : Nat) (f : Nat → Nat → Rat) (g : Nat) (cb : Array Value) (eg : ∀ args w, (callFunc g args).run Tryz.prog w = .ok (.enter g args) w)
    (φ : Nat × Nat × Rat → List (Nat × Nat × Rat)) (p b R C j m : Nat) (hsp : SpM w0 v r c f) (hin : In w0.heap.size w0 w) (hb : w0.heap.size ≤ b) (hr : r ≤ 2048) (hc : c ≤ 2048)
    (hB : BB w p b 0 R C (fun _ _ => 0)) (hφ : ∀ x ∈ items r c f, (φ x).length ≤ m ∧ ∀ y ∈ φ x, SzK j y.2.2)
    (hcl : ∀ i k q W n f', (i, k, q) ∈ items r c f → w.grownBy W (some b) → BB W p b n R C f' → (∀ a e, SzK (1 + ((items r c f).length - 1) * (m * (j + 1))) (f' a e)) → n ≤ ((items r c f).length - 1) * m →
      Calls Tryz.prog g (#[.int .i64 (i : Nat), .int .i64 (k : Nat), fracV q] ++ cb) W fun e w' => e = .returned (.tuple #[]) ∧ BB w' p b (n + (φ (i, k, q)).length) R C (foldA f' (φ (i, k, q))) ∧ W.grownBy w' (some b)) :
    Calls Tryz.prog 73 #[v, .func (.func g) #[] cb] w fun e w' => e = .returned (.tuple #[]) ∧ (∃ n, BB w' p b n R C (foldA (fun _ _ => 0) ((items r c f).flatMap φ))) ∧ w.grownBy w' (some b) := by
  have key := each_any (fun t W => w.grownBy W (some b) ∧ (∀ x ∈ t, x ∈ items r c f) ∧ t.length ≤ (items r c f).length ∧ ∃ f' n, n ≤ ((items r c f).length - t.length) * m ∧ BB W p b n R C f' ∧ (∀ a e, SzK (1 + ((items r c f).length - t.length) * (m * (j + 1))) (f' a e)) ∧ foldA f' (t.flatMap φ) = foldA (fun _ _ => 0) ((items r c f).flatMap φ))
    w0 w v r c (mrows r c f) g cb eg hsp
    (fun t W h => ⟨⟨h.1.os.trans hin.bel.os, h.1.tape.trans hin.bel.tape, h.1.output.trans hin.bel.output, Nat.le_trans hin.bel.size h.1.size, fun i hi => (h.1.block i (Nat.lt_of_lt_of_le hi hin.siz) (by simp; omega)).trans (hin.bel.block i hi)⟩, Nat.le_trans hin.siz h.1.size⟩)
    (fun t W W' h hbel => ⟨gr_bel h.1 hbel, h.2.1, h.2.2.1, by
      obtain ⟨f', n, h0, h1, h2, h3⟩ := h.2.2.2
      exact ⟨f', n, h0, ⟨h1.1.call hbel, h1.2.call hbel⟩, h2, h3⟩⟩)
    (fun i k q t W h => by
      obtain ⟨h1, h2, h3, f', n, h0, h4, h5, h6⟩ := h
      have hx := h2 _ (.head _)
      rw [List.length_cons] at h3 h0 h5
      obtain ⟨T, hT⟩ : ∃ T, T = (items r c f).length := ⟨_, rfl⟩
      rw [← hT] at h3 h0 h5 hcl ⊢
      have hle : T - (t.length + 1) ≤ T - 1 := by omega
      have hm1 := Nat.mul_le_mul_right m hle
      have hm2 := Nat.mul_le_mul_right (m * (j + 1)) hle
      have hp := hφ _ hx
      have hsucc : T - t.length = (T - (t.length + 1)) + 1 := by omega
      refine (hcl i k q W n f' hx h1 h4 (fun a e => (h5 a e).mono (by omega)) (by omega)).mono ?_
      rintro e w' ⟨rfl, h7, h8⟩
      refine ⟨rfl, h1.trans h8, fun x hx => h2 x (List.mem_cons_of_mem _ hx), by omega, _, _, ?_, h7, ?_, ?_⟩
      · rw [hsucc, Nat.succ_mul]; have := hp.1; omega
      · intro a e
        refine (SzK_foldAs _ h5 hp.2 a e).mono ?_
        have := Nat.mul_le_mul_right (j + 1) hp.1
        rw [hsucc, Nat.succ_mul]; omega
      · rw [← h6, List.flatMap_cons]; unfold foldA; rw [List.foldl_append])
    (by rw [mrows_length]; omega) (fun i => Nat.le_trans (mrows_row r c f i) (by omega))
    ⟨⟨rfl, rfl, rfl, Nat.le_refl _, fun _ _ _ => rfl⟩, fun x hx => hx, Nat.le_refl _, fun _ _ => 0, 0, Nat.zero_le _, hB, fun _ _ => (show SzK _ 0 from SzK.zero.mono (Nat.le_add_right 1 _)), rfl⟩
  refine key.mono ?_
  rintro e w' ⟨rfl, h1, _, _, f', n, _, h4, _, h6⟩
  refine ⟨rfl, ⟨n, ?_⟩, h1⟩
  rw [← h6]
  exact h4
end Gus
end
section
/- sparses.Scale. -/
namespace Gus
open Go Go.RowKit Go.Proofs
set_option maxRecDepth 100000 in
set_option maxHeartbeats 2000000 in
theorem scale1_any {s j l : Nat} (W : World) (q p b n N M bc : Nat) (cc : Rat) (f : Nat → Nat → Rat) (i k : Nat) (x : Rat) (hq : W.cell? ⟨q, 0, none⟩ = some (.pointer (some ⟨p, 0, none⟩))) (hC : Bx W bc 56 (fcs cc)) (hB : BB W p b n N M f) (hi : i < N) (hk : k < M) (hN : N ≤ 2048) (hM : M ≤ 2048) (hn : n < maxLen) (hpb : p ≠ b)
    (hs : SzK s (f i k)) (hl : SzK l cc) (hj : SzK j x) (hsj : s + (l + j) + 1 < 17592186044416) :
    Calls Tryz.prog 110 #[.int .i64 i, .int .i64 k, fracV x, .pointer (some ⟨q, 0, none⟩), .pointer (some ⟨bc, 0, none⟩)] W fun e w' => e = .returned (.tuple #[]) ∧ BB w' p b (n + 1) N M (setF f i k (f i k + cc * x)) ∧ W.grownBy w' (some b) := by
  have c1 := fmul_any cc x hl hj (by omega)
  have hzz := hl.mul hj
  obtain ⟨z, hz⟩ : ∃ z, z = cc * x := ⟨_, rfl⟩
  rw [← hz] at c1 hzz ⊢
  have c2 := fun W2 (hB2 : BB W2 p b n N M f) => badd_in W2 p b n N M f i k z hB2 hi hk hN hM hn hpb hs hzz hsj
  obtain ⟨C1, C2, C3, C4, C5, hc1, hc2⟩ : ∃ A1 A2 A3 A4 A5, fracV cc = .agg #[.int .u64 A1, .string A2, .bool A3, .int .u64 A4, .string A5] ∧ fcs cc = [.int .u64 A1, .string A2, .bool A3, .int .u64 A4, .string A5] := ⟨_, _, _, _, _, rfl, rfl⟩
  obtain ⟨X1, X2, X3, X4, X5, hx1⟩ : ∃ A1 A2 A3 A4 A5, fracV x = .agg #[.int .u64 A1, .string A2, .bool A3, .int .u64 A4, .string A5] := ⟨_, _, _, _, _, rfl⟩
  rw [hc2] at hC
  rw [hc1, hx1] at c1
  rw [hx1]
  have hqW := World.block_lt_of_cell? W _ hq
  simp only at hqW
  obtain ⟨X, hX⟩ : ∃ X, X = W.heap.size := ⟨_, rfl⟩
  clear hz hs hl hj hsj hc1 hc2 hx1 hzz
  go_enter Tryz.func110, Tryz.ntmps110
  go_upto_region 1 with fail
  have bx := Bx.new_at W #[.int .u64 X1, .string X2, .bool X3, .int .u64 X4, .string X5] 56 hX
  have bc' := hC.alloc (.cells #[.int .u64 X1, .string X2, .bool X3, .int .u64 X4, .string X5] 56)
  have hB1 : BB _ p b n N M f := ⟨hB.1.alloc (.cells #[.int .u64 X1, .string X2, .bool X3, .int .u64 X4, .string X5] 56), hB.2.alloc _⟩
  have hg := World.grownBy_alloc W (.cells #[.int .u64 X1, .string X2, .bool X3, .int .u64 X4, .string X5] 56) (some b)
  have hin := (In.self W).alloc (.cells #[.int .u64 X1, .string X2, .bool X3, .int .u64 X4, .string X5] 56)
  rw [← hin.cell q _ hqW] at hq
  have hqW2 : q < (W.alloc (.cells #[.int .u64 X1, .string X2, .bool X3, .int .u64 X4, .string X5] 56)).heap.size := by rw [World.size_alloc]; omega
  rw [← hX]
  have HG := Lib.hid hg
  have HB := Lib.hid hB1
  clear hX hin hg hB1 hB hC hqW
  generalize W.alloc (.cells #[.int .u64 X1, .string X2, .bool X3, .int .u64 X4, .string X5] 56) = W1 at *
  have x0 := bx.c0
  have x1 := bx.c1
  have x2 := bx.c2
  have x3 := bx.c3
  have x4 := bx.c4
  have xl := bx.lt
  have y0 := bc'.c0
  have y1 := bc'.c1
  have y2 := bc'.c2
  have y3 := bc'.c3
  have y4 := bc'.c4
  have yl := bc'.lt
  clear bx bc'
  have h := In.self W1
  have hc := h.cell
  refine wp_region_flow 6 (by kernel_rfl) (by kernel_rfl) (fun _ _ d _ _ h => by cases d <;> exact h) ?_; simp only [List.take_succ_cons, List.take_zero, List.drop_succ_cons, List.drop_zero]; simp only [putAll, Act.put, List.setIfInBounds_toArray, List.set]; (try simp only [Nat.reduceAdd]); (try simp only [Nat.zero_add]); (repeat (first | ((with_reducible refine flow_float (v := ?_) ?_ ?_ ?_); rotate_left 1; (focus (with_reducible rfl)); (focus (intro u w1 hw hd w2; (try simp only [depH] at hd); (try simp only [ext] at hd); (try simp only [extU] at hd); (try simp only [Nat.reduceAdd] at hd); (try simp only [Nat.reduceEqDiff] at hd); (try simp only [reduceIte] at hd); (try simp only [if_true] at hd); (try simp only [if_false] at hd); (try simp only [and_true] at hd); (try simp only [true_and] at hd); go_simp; exact rfl))) | ((with_reducible refine flow_pure0 (v := ?_) ?_ ?_ ?_ ?_); rotate_left 1; (focus (with_reducible rfl)); (focus rfl); (focus (intro u w1 hw hd; (try simp only [depH] at hd); (try simp only [ext] at hd); (try simp only [extU] at hd); (try simp only [Nat.reduceAdd] at hd); (try simp only [Nat.reduceEqDiff] at hd); (try simp only [reduceIte] at hd); (try simp only [if_true] at hd); (try simp only [if_false] at hd); (try simp only [and_true] at hd); (try simp only [true_and] at hd); have hc' := hw.cell; go_simp; exact rfl))) | ((with_reducible refine flow_skipg (j := ?_) (b := ?_) ?_ ?_ ?_); rotate_left 2; (focus (with_reducible rfl)); (focus (intro u w1 hw hd; (try simp only [depH] at hd); (try simp only [ext] at hd); (try simp only [extU] at hd); (try simp only [Nat.reduceAdd] at hd); (try simp only [Nat.reduceEqDiff] at hd); (try simp only [reduceIte] at hd); (try simp only [if_true] at hd); (try simp only [if_false] at hd); (try simp only [and_true] at hd); (try simp only [true_and] at hd); simp [yielded, hd]; done))) | ((with_reducible refine flow_pureg (v := ?_) (j := ?_) (b := ?_) ?_ ?_ ?_ ?_); rotate_left 3; (focus (with_reducible rfl)); (focus (intro u w1 hw hd; (try simp only [depH] at hd); (try simp only [ext] at hd); (try simp only [extU] at hd); (try simp only [Nat.reduceAdd] at hd); (try simp only [Nat.reduceEqDiff] at hd); (try simp only [reduceIte] at hd); (try simp only [if_true] at hd); (try simp only [if_false] at hd); (try simp only [and_true] at hd); (try simp only [true_and] at hd); simp [yielded, hd]; done)); (focus (intro u w1 hw hd; (try simp only [depH] at hd); (try simp only [ext] at hd); (try simp only [extU] at hd); (try simp only [Nat.reduceAdd] at hd); (try simp only [Nat.reduceEqDiff] at hd); (try simp only [reduceIte] at hd); (try simp only [if_true] at hd); (try simp only [if_false] at hd); (try simp only [and_true] at hd); (try simp only [true_and] at hd); have hc' := hw.cell; go_simp; exact rfl))) | ((with_reducible refine flow_alloc (t := ?_) (zs := ?_) ?_ ?_ ?_ ?_); rotate_left 2; (focus (with_reducible rfl)); (focus rfl); (focus (intro u w1; go_simp; exact rfl))) | ((with_reducible refine flow_pure0 (v := ?_) ?_ ?_ ?_ ?_); rotate_left 1; (focus (with_reducible rfl)); (focus rfl); (focus (intro u w1 hw hd; (try simp only [depH] at hd); (try simp only [ext] at hd); (try simp only [extU] at hd); (try simp only [Nat.reduceAdd] at hd); (try simp only [Nat.reduceEqDiff] at hd); (try simp only [reduceIte] at hd); (try simp only [if_true] at hd); (try simp only [if_false] at hd); (try simp only [and_true] at hd); (try simp only [true_and] at hd); have hc' := hw.cell; go_simp; go_at_call 105; ((with_reducible refine (c1 _).mono ?_)); rintro e w'' ⟨rfl, hb⟩; refine ⟨?_, hb⟩; exact rfl))) | ((with_reducible refine flow_pureg (v := ?_) (j := ?_) (b := ?_) ?_ ?_ ?_ ?_); rotate_left 3; (focus (with_reducible rfl)); (focus (intro u w1 hw hd; (try simp only [depH] at hd); (try simp only [ext] at hd); (try simp only [extU] at hd); (try simp only [Nat.reduceAdd] at hd); (try simp only [Nat.reduceEqDiff] at hd); (try simp only [reduceIte] at hd); (try simp only [if_true] at hd); (try simp only [if_false] at hd); (try simp only [and_true] at hd); (try simp only [true_and] at hd); simp [yielded, hd]; done)); (focus (intro u w1 hw hd; (try simp only [depH] at hd); (try simp only [ext] at hd); (try simp only [extU] at hd); (try simp only [Nat.reduceAdd] at hd); (try simp only [Nat.reduceEqDiff] at hd); (try simp only [reduceIte] at hd); (try simp only [if_true] at hd); (try simp only [if_false] at hd); (try simp only [and_true] at hd); (try simp only [true_and] at hd); have hc' := hw.cell; go_simp; go_at_call 105; ((with_reducible refine (c1 _).mono ?_)); rintro e w'' ⟨rfl, hb⟩; refine ⟨?_, hb⟩; exact rfl)))))
  (try clear hc hf h); intro u w' h ha hdi; replace h := h.ins; (try simp only [World.size_alloc] at h); (try dsimp only at ha); (repeat rw [World.size_alloc] at ha); (try simp only [allH] at ha); (try simp only [ext] at ha); (try simp only [extU] at ha); (try simp only [Nat.reduceAdd] at ha); (try simp only [Nat.reduceEqDiff] at ha); (try simp only [reduceIte] at ha); (try simp only [if_true] at ha); (try simp only [if_false] at ha); (try simp only [and_true] at ha); (try simp only [true_and] at ha); have hc := h.cell; have hf := h.frozen
  (try obtain ha := ha); (try dsimp only);  simp only [ha]; clear ha hdi 
  have c3 := c2 _ ⟨HB.out.1.call h.bel, HB.out.2.call h.bel⟩
  have HG2 := Lib.hid (gr_bel HG.out h.bel)
  clear h hc hf c1 c2 x0 x1 x2 x3 x4 xl y0 y1 y2 y3 y4 yl HG HB hq
  go_wp2_with fail
  ((with_reducible refine c3.mono ?_))
  rintro e w2 ⟨rfl, hB2, hg2⟩
  have HB2 := Lib.hid hB2
  have HG3 := Lib.hid (HG2.out.trans hg2)
  clear hB2 hg2 c3 HG2
  go_wp2_with fail
  go_end0
  exact ⟨rfl, HB2.out, HG3.out⟩
set_option maxRecDepth 100000 in
set_option maxHeartbeats 4000000 in
theorem sscale_any {j l : Nat} (w : World) (cc : Rat) (v : Value) (r c : Nat) (f : Nat → Nat → Rat) (hS : SpM w v r c f) (hr : r ≤ 2048) (hc : c ≤ 2048) (hl : SzK l cc) (hz : ∀ i k, SzK j (f i k)) (hcap : r * c * (l + j + 1) + 1 < 17592186044416) :
    Calls Tryz.prog 50 #[fracV cc, v] w fun e w' => (∃ v', e = .returned (.tuple #[v', .int .i64 0]) ∧ SpN w' w.heap.size v' r c (fun i k => cc * f i k)) ∧ Below w.heap.size w w' := by
  have hck := fun W (h : Below w.heap.size w W) => scheck_ok (hS.call h) hr hc
  have hbg := begun_any r c
  obtain ⟨a, cap, rfl⟩ := hS.shape
  have HS := Lib.hid hS
  obtain ⟨C1, C2, C3, C4, C5, hc1, hc2⟩ : ∃ A1 A2 A3 A4 A5, fracV cc = .agg #[.int .u64 A1, .string A2, .bool A3, .int .u64 A4, .string A5] ∧ fcs cc = [.int .u64 A1, .string A2, .bool A3, .int .u64 A4, .string A5] := ⟨_, _, _, _, _, rfl, rfl⟩
  rw [hc1]
  have HC2 := Lib.hid hc2
  obtain ⟨X, hX⟩ : ∃ X, X = w.heap.size := ⟨_, rfl⟩
  have HX := Lib.hid hX
  clear hS hc1 hc2
  go_enter Tryz.func50, Tryz.ntmps50
  go_wp2_with fail
  ((with_reducible refine (hck _ ?_).mono ?_))
  · exact ((((In.self w).alloc _).alloc _).alloc _).bel
  rintro e w2 ⟨rfl, hb⟩
  have hin := ((((In.self w).alloc (.cells #[.int .u64 C1, .string C2, .bool C3, .int .u64 C4, .string C5] 56)).alloc (.cells #[.int .i64 r, .int .i64 c, .slice a r cap] 63)).alloc (.cells #[.int .i64 0, .int .i64 0, .slice none 0 0] 63)).call hb
  have bc := (((Bx.new_at w #[.int .u64 C1, .string C2, .bool C3, .int .u64 C4, .string C5] 56 hX).alloc (.cells #[.int .i64 r, .int .i64 c, .slice a r cap] 63)).alloc (.cells #[.int .i64 0, .int .i64 0, .slice none 0 0] 63)).call hb
  have bx := ((Bx.new_at (w.alloc (.cells #[.int .u64 C1, .string C2, .bool C3, .int .u64 C4, .string C5] 56)) #[.int .i64 r, .int .i64 c, .slice a r cap] 63 (n := X + 1) (by rw [World.size_alloc, hX])).alloc (.cells #[.int .i64 0, .int .i64 0, .slice none 0 0] 63)).call hb
  have bq := (Bx.new_at ((w.alloc (.cells #[.int .u64 C1, .string C2, .bool C3, .int .u64 C4, .string C5] 56)).alloc (.cells #[.int .i64 r, .int .i64 c, .slice a r cap] 63)) #[.int .i64 0, .int .i64 0, .slice none 0 0] 63 (n := X + 1 + 1) (by rw [World.size_alloc, World.size_alloc, hX])).call hb
  rw [← hX]
  clear hX hb hck
  have x0 := bx.c0
  have x1 := bx.c1
  have xl := bx.lt
  go_wp2_with fail
  ((with_reducible refine (hbg _).mono ?_))
  rintro e w3 ⟨rfl, hB, hb⟩
  obtain ⟨b, hb0⟩ : ∃ b, b = w2.heap.size := ⟨_, rfl⟩
  have hXb : X + 1 + 1 < b := by have := bq.lt; omega
  rw [← hb0] at hB ⊢
  replace hin := hin.call hb
  replace bc := bc.call hb
  replace bx := bx.call hb
  replace bq := bq.call hb
  have HB := Lib.hid hB
  clear hb hbg hb0 hB x0 x1 xl
  have x0 := bx.c0
  have x1 := bx.c1
  have x2 := bx.c2
  have xl := bx.lt
  go_wp2_with fail
  obtain ⟨q, hq⟩ : ∃ q, q = w3.heap.size := ⟨_, rfl⟩
  have bp := Bx.new_at w3 #[.pointer (some ⟨b + 1, 0, none⟩)] 24 hq
  have hB3 : BB (w3.alloc (.cells #[.pointer (some ⟨b + 1, 0, none⟩)] 24)) (b + 1) b 0 r c (fun _ _ => 0) := ⟨HB.out.1.alloc _, HB.out.2.alloc _⟩
  have hbq : b + 1 < q := by rw [hq]; exact HB.out.1.lt
  replace hin := hin.alloc (.cells #[.pointer (some ⟨b + 1, 0, none⟩)] 24)
  replace bc := bc.alloc (.cells #[.pointer (some ⟨b + 1, 0, none⟩)] 24)
  replace bq := bq.alloc (.cells #[.pointer (some ⟨b + 1, 0, none⟩)] 24)
  rw [← hq]
  clear bx hq x0 x1 x2 xl HB
  generalize w3.alloc (.cells #[.pointer (some ⟨b + 1, 0, none⟩)] 24) = W3 at *
  have hT := items_length r c f
  obtain ⟨T, hTT⟩ : ∃ T, T = (items r c f).length := ⟨_, rfl⟩
  have hTb : T * (l + j + 1) ≤ r * c * (l + j + 1) := by rw [hTT]; exact Nat.mul_le_mul_right _ hT
  have hT4 : T ≤ 4194304 := by rw [hTT]; exact Nat.le_trans hT (Nat.mul_le_mul hr hc)
  have he := each_build w W3 (.agg #[.int .i64 r, .int .i64 c, .slice a r cap]) r c f 110 #[.pointer (some ⟨q, 0, none⟩), .pointer (some ⟨X, 0, none⟩)] (enters_of Tryz.func110 (by kernel_rfl) rfl) (fun x => (x.1, x.2.1, cc * x.2.2)) (b + 1) b 0 r c (l + j) 1 (fun _ _ => 0) HS.out hin (by rw [← HX.out]; omega) hr hc hB3 (fun _ _ => SzK.zero)
    (fun ⟨i, k, x⟩ hx => by have := mem_items.1 hx; exact ⟨this.1, this.2.1, by simp only; rw [this.2.2.2]; exact hl.mul (hz i k)⟩) (by rw [← hTT]; simp only [maxLen]; omega)
    (fun i k x W n f' hx hg hBW hsz hn => by
      have hm := mem_items.1 hx
      have hT0 : 0 < T := by rw [hTT]; exact List.length_pos_of_mem hx
      rw [← hTT] at hsz
      have hTj : l + j + 1 ≤ T * (l + j + 1) := Nat.le_mul_of_pos_left _ hT0
      exact scale1_any (l := l) (j := j) W q (b + 1) b n r c X cc f' i k x (((bp.grown hg (by simp; omega)).c0)) (by rw [HC2.out]; exact bc.grown hg (by simp; omega)) hBW hm.1 hm.2.1 hr hc hn (by omega) (hsz i k) hl (by rw [hm.2.2.2]; exact hz i k) (by omega))
  ((with_reducible refine he.mono ?_))
  rintro e w4 ⟨rfl, hB4, hg4⟩
  have bp4 := bp.grown hg4 (by simp; omega)
  have bq4 := bq.grown hg4 (by simp; omega)
  have hin4 := hin.grown hg4 (by have := HX.out; omega)
  have hsp := bsparse_any w4 (b + 1) b _ r c _ hB4 hr hc
  have q0 := bp4.c0
  have hql := bp4.lt
  clear he hg4 bc bq hin bp hB3 hB4
  go_wp2_with fail
  ((with_reducible refine hsp.mono ?_))
  rintro e w5 ⟨v5, rfl, hv5, hb5⟩
  have br := bq4
  rw [← HX.out] at hin4
  have hin := hin4
  have hXw := hin.siz
  clear bq4 bp4 hin4 q0 hql hsp
  ((obtain ⟨R, h5⟩ : ∃ R, v5 = .agg #[(.int .i64 ((r : Nat) : Int)), (.int .i64 ((c : Nat) : Int)), (.slice (some ⟨R, 0, none⟩) (r) (r))] := by (obtain ⟨R, _, h, _⟩ := hv5; exact ⟨R, h⟩)); (have br5 := br.call hb5); (have hin5 := hin.call hb5); (have hXl := br.lt); (have hv7 := ((SpOwn.other (a := ⟨(X + 1 + 1), 0, none⟩) hv5 hXl (.int .i64 ((r : Nat) : Int))).other (a := ⟨(X + 1 + 1), 1, none⟩) hXl (.int .i64 ((c : Nat) : Int))).other (a := ⟨(X + 1 + 1), 2, none⟩) hXl (.slice (some ⟨R, 0, none⟩) (r) (r))); (have br6 := ((br5.set 0 (.int .i64 ((r : Nat) : Int))).set 1 (.int .i64 ((c : Nat) : Int))).set 2 (.slice (some ⟨R, 0, none⟩) (r) (r))); (have hin6 := ((hin5.setCell (p := ⟨(X + 1 + 1), 0, none⟩) (by first | (simp; done) | (simp; omega)) (.int .i64 ((r : Nat) : Int))).setCell (p := ⟨(X + 1 + 1), 1, none⟩) (by first | (simp; done) | (simp; omega)) (.int .i64 ((c : Nat) : Int))).setCell (p := ⟨(X + 1 + 1), 2, none⟩) (by first | (simp; done) | (simp; omega)) (.slice (some ⟨R, 0, none⟩) (r) (r))); (have f0 := br5.frozen 0); (have f1 := br5.frozen 1); (have f2 := br5.frozen 2); (have b0 := br5.c0); (have b1 := br5.c1); (have b2 := br5.c2); (have hl5 := br5.lt); (subst h5); (have H1 := Lib.hid hv7); (have H2 := Lib.hid br6); (have H3 := Lib.hid hin6); (clear hv7 br6 hin6 hv5 hb5 br br5 hin hin5); (go_wp2_with fail); (have h1 := H1.out); (have h2 := H2.out); (have h3 := H3.out); (clear H1 H2 H3 f0 f1 f2 b0 b1 b2 hl5); (generalize ((w5.setCell ⟨(X + 1 + 1), 0, none⟩ (.int .i64 ((r : Nat) : Int))).setCell ⟨(X + 1 + 1), 1, none⟩ (.int .i64 ((c : Nat) : Int))).setCell ⟨(X + 1 + 1), 2, none⟩ (.slice (some ⟨R, 0, none⟩) (r) (r)) = W6 at *); (have e0 : W6.cell? ⟨(X + 1 + 1), 0, none⟩ = some (.int .i64 ((r : Nat) : Int)) := h2.cell 0); (have e1 : W6.cell? ⟨(X + 1 + 1), 1, none⟩ = some (.int .i64 ((c : Nat) : Int)) := h2.cell 1); (have e2 : W6.cell? ⟨(X + 1 + 1), 2, none⟩ = some (.slice (some ⟨R, 0, none⟩) (r) (r)) := h2.cell 2); (have hfin := SpOwn.mono h1 (show w.heap.size ≤ (World.heap w4).size by rw [← HX.out]; omega)); (have hbelow : Below w.heap.size w W6 := h3.bel.mono (by have := HX.out; omega)); (refine bodyPost_ret (v := .tuple #[.agg #[(.int .i64 ((r : Nat) : Int)), (.int .i64 ((c : Nat) : Int)), (.slice (some ⟨R, 0, none⟩) (r) (r))], .int .i64 0]) ?_ rfl ⟨⟨_, rfl, SpN.congr (f := foldA (fun _ _ => 0) ((items r c f).map fun (x : Nat × Nat × Rat) => (x.1, x.2.1, cc * x.2.2))) hfin (fun i k hi hk => scale_sum r c f cc hi hk)⟩, hbelow⟩); (simp [results, Tryz.results50, go_sem, e0, e1, e2]))
end Gus
end
section
/- sparses.Mul. -/
namespace Gus
open Go Go.RowKit Go.Proofs
set_option maxRecDepth 100000 in
set_option maxHeartbeats 4000000 in
theorem smul1_any {s j l : Nat} (w0 W : World) (bY q p b n N r' c' k' i k : Nat) (a' : Option Addr) (x : Rat) (f g : Nat → Nat → Rat)
    (hS : SpM w0 (.agg #[.int .i64 r', .int .i64 c', .slice a' r' k']) r' c' g) (hin : In w0.heap.size w0 W) (hb0 : w0.heap.size ≤ b)
    (hY : Bx W bY 63 [.int .i64 r', .int .i64 c', .slice a' r' k']) (_hYb : bY ≠ b) (hQ : Bx W q 24 [.pointer (some ⟨p, 0, none⟩)]) (hqb : q ≠ b)
    (hB : BB W p b n N c' f) (hi : i < N) (hk : k < r') (hN : N ≤ 2048) (hc' : c' ≤ 2048) (_hr' : r' ≤ 2048) (hn : n + c' < maxLen) (hpb : p ≠ b)
    (hs : ∀ a e, SzK s (f a e)) (hj : SzK j x) (hl : ∀ i k, SzK l (g i k)) (hsj : s + c' * (j + l + 1) < 17592186044416) :
    Calls Tryz.prog 104 #[.int .i64 i, .int .i64 k, fracV x, .pointer (some ⟨bY, 0, none⟩), .pointer (some ⟨q, 0, none⟩)] W fun e w' => e = .returned (.tuple #[]) ∧ BB w' p b (n + (mulL c' g (i, k, x)).length) N c' (foldA f (mulL c' g (i, k, x))) ∧ W.grownBy w' (some b) := by
  obtain ⟨sa, sc, hsv, hrow⟩ := hS
  rw [mrows_length] at hsv
  simp only [Value.agg.injEq] at hsv
  have hsv2 := congrArg Array.toList hsv
  simp only [List.cons.injEq, Value.slice.injEq, and_true, true_and] at hsv2
  obtain ⟨rfl, rfl⟩ := hsv2
  obtain ⟨rb, off, xv, rfl, hrb, hrc, hxr⟩ := hrow k (by rw [mrows_length]; exact hk)
  rw [mrows_getD c' g hk] at hxr
  have hxg := hxr.g
  obtain ⟨xa, xc, rfl, _⟩ := hxr
  have hrow0 : ∀ e ∈ rowOf (g k) c', e.1 < c' ∧ SzK l e.2 := fun ⟨y, qq⟩ he => by
    have := mem_rowOf.1 he
    exact ⟨this.1, by simp only; rw [this.2.2]; exact hl k y⟩
  have hKc := rowOf_length (g k) c'
  have hml : mulL c' g (i, k, x) = (rowOf (g k) c').map fun e => (i, e.1, x * e.2) := rfl
  rw [hml]
  obtain ⟨es, hes⟩ : ∃ es, es = rowOf (g k) c' := ⟨_, rfl⟩
  rw [← hes] at hxg hrc hrow0 hKc ⊢
  obtain ⟨K, hK⟩ : ∃ K, K = es.length := ⟨_, rfl⟩
  rw [List.length_map, ← hK]
  rw [← hK] at hrc hKc
  obtain ⟨X1, X2, X3, X4, X5, hx1⟩ : ∃ A1 A2 A3 A4 A5, fracV x = .agg #[.int .u64 A1, .string A2, .bool A3, .int .u64 A4, .string A5] := ⟨_, _, _, _, _, rfl⟩
  have hsK : s + K * (j + l + 1) < 17592186044416 := by
    have := Nat.mul_le_mul_right (j + l + 1) hKc; omega
  have hnK : n + K < maxLen := by omega
  have c1 := fun e (he : e ∈ es) => fmul_any x e.2 hj (hrow0 e he).2 (by
    have : 1 ≤ K := by rw [hK]; exact List.length_pos_of_mem he
    have := Nat.mul_le_mul_right (j + l + 1) this
    omega)
  rw [hx1] at c1 ⊢
  have C1 := Lib.hid c1
  have HR := Lib.hid hrow0
  have HK := Lib.hid hK
  have HXG := Lib.hid hxg
  have HS0 := Lib.hid hs
  have HJ := Lib.hid hj
  have HSK := Lib.hid hsK
  have hrbW : rb < W.heap.size := by have := hin.siz; omega
  have HG0 := Lib.hid (World.grownBy_alloc W (.cells #[.int .u64 X1, .string X2, .bool X3, .int .u64 X4, .string X5] 56) (some b))
  have hY1 := hY.alloc (.cells #[.int .u64 X1, .string X2, .bool X3, .int .u64 X4, .string X5] 56)
  have hQ1 := hQ.alloc (.cells #[.int .u64 X1, .string X2, .bool X3, .int .u64 X4, .string X5] 56)
  have hB1 : BB _ p b n N c' f := ⟨hB.1.alloc (.cells #[.int .u64 X1, .string X2, .bool X3, .int .u64 X4, .string X5] 56), hB.2.alloc _⟩
  have hin1 := hin.alloc (.cells #[.int .u64 X1, .string X2, .bool X3, .int .u64 X4, .string X5] 56)
  obtain ⟨X, hX⟩ : ∃ X, X = W.heap.size := ⟨_, rfl⟩
  have bx1 := Bx.new_at W #[.int .u64 X1, .string X2, .bool X3, .int .u64 X4, .string X5] 56 hX
  have hXb : X ≠ b := by
    have h1 := hB.2.lt
    omega
  have hrc1 : (W.alloc (.cells #[.int .u64 X1, .string X2, .bool X3, .int .u64 X4, .string X5] 56)).cell? ⟨rb, off + k, none⟩ = some (.slice xa K xc) := by
    rw [hin1.cell rb _ hrb]; exact hrc
  have hrb1 : rb < (W.alloc (.cells #[.int .u64 X1, .string X2, .bool X3, .int .u64 X4, .string X5] 56)).heap.size := by rw [World.size_alloc]; omega
  have hkI : (k : Int) < r' := by omega
  have hk0 : (0 : Int) ≤ k := by omega
  clear hsv hrow hes hml hx1 hs hj hl hsj hn hxg hrow0 hrc hrbW hY hQ hB hin hK c1 hsK
  go_enter Tryz.func104, Tryz.ntmps104
  go_upto_region 1 with fail
  rw [← hX]
  clear hX
  generalize W.alloc (.cells #[.int .u64 X1, .string X2, .bool X3, .int .u64 X4, .string X5] 56) = W1 at *
  have x0 := hY1.c0
  have x1 := hY1.c1
  have x2 := hY1.c2
  have xl := hY1.lt
  go_wp2_with fail
  clear x0 x1 x2 xl hrc1 hrb1 hkI hk0
  go_loopw [16] (fun v16 wr => ∃ m : Nat, m ≤ K ∧ v16 = .int .i64 m ∧ In w0.heap.size w0 wr ∧ Bx wr q 24 [.pointer (some ⟨p, 0, none⟩)] ∧ Bx wr X 56 [.int .u64 X1, .string X2, .bool X3, .int .u64 X4, .string X5] ∧ BB wr p b (n + m) N c' (foldA f ((es.take m).map fun e => (i, e.1, x * e.2))) ∧ (∀ a e, SzK (s + m * (j + l + 1)) (foldA f ((es.take m).map fun e => (i, e.1, x * e.2)) a e)) ∧ W.grownBy wr (some b)) (fun v16 _ => K - (RowKit.intOf v16).toNat)
  case atStart => exact ⟨0, Nat.zero_le _, rfl, hin1, hQ1, bx1, hB1, fun a e => (HS0.out a e).mono (by omega), HG0.out⟩
  case round =>
    clear hin1 hQ1 bx1 hB1 hY1 HG0
    obtain ⟨m, hm, rfl, hin, hQ, bx, hB, hsz, hg⟩ := hrel
    by_cases hmK : m < K
    · obtain ⟨b2, off2, cap2, A1, A2, A3, A4, A5, hv, hb2, hf1, hf2, e0, e1, e2, e3, e4, e5⟩ := HXG.out.at (i := m) (by rw [List.length_map, ← HK.out]; exact hmK)
      have hme : m < es.length := by rw [← HK.out]; exact hmK
      have hgd : (es.map cI).getD m (0, 0) = cI (es.getD m (0, 0)) := by
        simp only [List.getD_eq_getElem?_getD, List.getElem?_map, List.getElem?_eq_getElem hme]; rfl
      have hmem : es.getD m (0, 0) ∈ es := by
        rw [List.getD_eq_getElem?_getD, List.getElem?_eq_getElem hme]; exact List.getElem_mem hme
      have htk : es.take (m + 1) = es.take m ++ [es.getD m (0, 0)] := by
        exact take_getD es _ hme
      rw [hgd] at e0 hf1 hf2
      have c1 := C1.out _ hmem
      have hcol := HR.out _ hmem
      obtain ⟨e, he⟩ : ∃ e, e = es.getD m (0, 0) := ⟨_, rfl⟩
      rw [← he] at e0 hf1 hf2 htk c1 hcol
      obtain ⟨col, qv, rfl⟩ : ∃ col q, e = (col, q) := ⟨e.1, e.2, rfl⟩
      simp only [cI] at e0 hf1 hf2
      simp only at c1 hcol
      rw [← hin.cell b2 _ hb2] at e0 e1 e2 e3 e4 e5
      have hbw2 : b2 < wr.heap.size := by have := hin.siz; omega
      simp only [Value.slice.injEq, List.length_map] at hv
      obtain ⟨rfl, _, hcc⟩ := hv
      subst hcc
      have hmI : (m : Int) < K := by omega
      have hm0 : (0 : Int) ≤ m := by omega
      have hmw : IntKind.i64.wrap ((m : Int) + 1) = ((m + 1 : Nat) : Int) := IntWalk.i64_in _ (by simp only [maxLen] at hnK; omega)
      rw [hf2] at c1
      have hzz := HJ.out.mul hcol.2
      obtain ⟨z, hz⟩ : ∃ z, z = x * qv := ⟨_, rfl⟩
      rw [← hz] at c1 hzz
      obtain ⟨F, hF⟩ : ∃ F, F = foldA f ((es.take m).map fun e => (i, e.1, x * e.2)) := ⟨_, rfl⟩
      have hF2 : foldA f ((es.take (m + 1)).map fun e => (i, e.1, x * e.2)) = addF F (i, col, z) := by
        rw [htk, List.map_append, hF, hz]; exact foldA_snoc _ _ _
      rw [← hF] at hB hsz
      have hmul : (m + 1) * (j + l + 1) ≤ K * (j + l + 1) := Nat.mul_le_mul_right _ hmK
      have hsz2 := SzK_foldA (x := (i, col, z)) hsz hzz
      have hsk := HSK.out
      have c2 := fun W2 (hB2 : BB W2 p b (n + m) N c' F) => badd_in (s := s + m * (j + l + 1)) (j := j + l) W2 p b (n + m) N c' F i col z hB2 hi hcol.1 hN hc' (by omega) hpb (hsz _ _) hzz (by rw [Nat.add_mul, Nat.one_mul] at hmul; omega)
      have HSZ : Hid (∀ a e, SzK (s + (m + 1) * (j + l + 1)) (addF F (i, col, z) a e)) := Lib.hid (fun a e => (hsz2 a e).mono (by rw [Nat.add_mul, Nat.one_mul]; omega))
      have HF := Lib.hid hF2
      clear hgd hmem htk he hf1 hf2 hz hF hF2 hsz hsz2 hmul hzz hcol hsk
      go_upto_region 4 with fail
      obtain ⟨Z, hZ⟩ : ∃ Z, Z = wr.heap.size := ⟨_, rfl⟩
      have bz := Bx.new_at wr #[.int .i64 col, .int .u64 A1, .string A2, .bool A3, .int .u64 A4, .string A5] 111 hZ
      have hB2 : BB _ p b (n + m) N c' F := ⟨hB.1.alloc (.cells #[.int .i64 col, .int .u64 A1, .string A2, .bool A3, .int .u64 A4, .string A5] 111), hB.2.alloc _⟩
      have hg2 := hg.trans (World.grownBy_alloc wr (.cells #[.int .i64 col, .int .u64 A1, .string A2, .bool A3, .int .u64 A4, .string A5] 111) (some b))
      replace hin := hin.alloc (.cells #[.int .i64 col, .int .u64 A1, .string A2, .bool A3, .int .u64 A4, .string A5] 111)
      replace hQ := hQ.alloc (.cells #[.int .i64 col, .int .u64 A1, .string A2, .bool A3, .int .u64 A4, .string A5] 111)
      replace bx := bx.alloc (.cells #[.int .i64 col, .int .u64 A1, .string A2, .bool A3, .int .u64 A4, .string A5] 111)
      rw [← hZ]
      clear hZ hB hg e0 e1 e2 e3 e4 e5 hbw2 hb2
      generalize wr.alloc (.cells #[.int .i64 col, .int .u64 A1, .string A2, .bool A3, .int .u64 A4, .string A5] 111) = W2 at *
      have x0 := bx.c0
      have x1 := bx.c1
      have x2 := bx.c2
      have x3 := bx.c3
      have x4 := bx.c4
      have xl := bx.lt
      have y0 := bz.c0
      have y1 := bz.c1
      have y2 := bz.c2
      have y3 := bz.c3
      have y4 := bz.c4
      have y5 := bz.c5
      have yl := bz.lt
      have q0 := hQ.c0
      have ql := hQ.lt
      have h := In.self W2
      have hc := h.cell
      refine wp_region_flow 8 (by kernel_rfl) (by kernel_rfl) (fun _ _ d _ _ h => by cases d <;> exact h) ?_; simp only [List.take_succ_cons, List.take_zero, List.drop_succ_cons, List.drop_zero]; simp only [putAll, Act.put, List.setIfInBounds_toArray, List.set]; (try simp only [Nat.reduceAdd]); (try simp only [Nat.zero_add]); (repeat (first | ((with_reducible refine flow_float (v := ?_) ?_ ?_ ?_); rotate_left 1; (focus (with_reducible rfl)); (focus (intro u w1 hw hd w2; (try simp only [depH] at hd); (try simp only [ext] at hd); (try simp only [extU] at hd); (try simp only [Nat.reduceAdd] at hd); (try simp only [Nat.reduceEqDiff] at hd); (try simp only [reduceIte] at hd); (try simp only [if_true] at hd); (try simp only [if_false] at hd); (try simp only [and_true] at hd); (try simp only [true_and] at hd); go_simp; exact rfl))) | ((with_reducible refine flow_pure0 (v := ?_) ?_ ?_ ?_ ?_); rotate_left 1; (focus (with_reducible rfl)); (focus rfl); (focus (intro u w1 hw hd; (try simp only [depH] at hd); (try simp only [ext] at hd); (try simp only [extU] at hd); (try simp only [Nat.reduceAdd] at hd); (try simp only [Nat.reduceEqDiff] at hd); (try simp only [reduceIte] at hd); (try simp only [if_true] at hd); (try simp only [if_false] at hd); (try simp only [and_true] at hd); (try simp only [true_and] at hd); have hc' := hw.cell; go_simp; exact rfl))) | ((with_reducible refine flow_skipg (j := ?_) (b := ?_) ?_ ?_ ?_); rotate_left 2; (focus (with_reducible rfl)); (focus (intro u w1 hw hd; (try simp only [depH] at hd); (try simp only [ext] at hd); (try simp only [extU] at hd); (try simp only [Nat.reduceAdd] at hd); (try simp only [Nat.reduceEqDiff] at hd); (try simp only [reduceIte] at hd); (try simp only [if_true] at hd); (try simp only [if_false] at hd); (try simp only [and_true] at hd); (try simp only [true_and] at hd); simp [yielded, hd]; done))) | ((with_reducible refine flow_pureg (v := ?_) (j := ?_) (b := ?_) ?_ ?_ ?_ ?_); rotate_left 3; (focus (with_reducible rfl)); (focus (intro u w1 hw hd; (try simp only [depH] at hd); (try simp only [ext] at hd); (try simp only [extU] at hd); (try simp only [Nat.reduceAdd] at hd); (try simp only [Nat.reduceEqDiff] at hd); (try simp only [reduceIte] at hd); (try simp only [if_true] at hd); (try simp only [if_false] at hd); (try simp only [and_true] at hd); (try simp only [true_and] at hd); simp [yielded, hd]; done)); (focus (intro u w1 hw hd; (try simp only [depH] at hd); (try simp only [ext] at hd); (try simp only [extU] at hd); (try simp only [Nat.reduceAdd] at hd); (try simp only [Nat.reduceEqDiff] at hd); (try simp only [reduceIte] at hd); (try simp only [if_true] at hd); (try simp only [if_false] at hd); (try simp only [and_true] at hd); (try simp only [true_and] at hd); have hc' := hw.cell; go_simp; exact rfl))) | ((with_reducible refine flow_alloc (t := ?_) (zs := ?_) ?_ ?_ ?_ ?_); rotate_left 2; (focus (with_reducible rfl)); (focus rfl); (focus (intro u w1; go_simp; exact rfl))) | ((with_reducible refine flow_pure0 (v := ?_) ?_ ?_ ?_ ?_); rotate_left 1; (focus (with_reducible rfl)); (focus rfl); (focus (intro u w1 hw hd; (try simp only [depH] at hd); (try simp only [ext] at hd); (try simp only [extU] at hd); (try simp only [Nat.reduceAdd] at hd); (try simp only [Nat.reduceEqDiff] at hd); (try simp only [reduceIte] at hd); (try simp only [if_true] at hd); (try simp only [if_false] at hd); (try simp only [and_true] at hd); (try simp only [true_and] at hd); have hc' := hw.cell; go_simp; go_at_call 105; ((with_reducible refine (c1 _).mono ?_)); rintro e w'' ⟨rfl, hb⟩; refine ⟨?_, hb⟩; exact rfl))) | ((with_reducible refine flow_pureg (v := ?_) (j := ?_) (b := ?_) ?_ ?_ ?_ ?_); rotate_left 3; (focus (with_reducible rfl)); (focus (intro u w1 hw hd; (try simp only [depH] at hd); (try simp only [ext] at hd); (try simp only [extU] at hd); (try simp only [Nat.reduceAdd] at hd); (try simp only [Nat.reduceEqDiff] at hd); (try simp only [reduceIte] at hd); (try simp only [if_true] at hd); (try simp only [if_false] at hd); (try simp only [and_true] at hd); (try simp only [true_and] at hd); simp [yielded, hd]; done)); (focus (intro u w1 hw hd; (try simp only [depH] at hd); (try simp only [ext] at hd); (try simp only [extU] at hd); (try simp only [Nat.reduceAdd] at hd); (try simp only [Nat.reduceEqDiff] at hd); (try simp only [reduceIte] at hd); (try simp only [if_true] at hd); (try simp only [if_false] at hd); (try simp only [and_true] at hd); (try simp only [true_and] at hd); have hc' := hw.cell; go_simp; go_at_call 105; ((with_reducible refine (c1 _).mono ?_)); rintro e w'' ⟨rfl, hb⟩; refine ⟨?_, hb⟩; exact rfl)))))
      (try clear hc hf h); intro u w' h ha hdi; replace h := h.ins; (try simp only [World.size_alloc] at h); (try dsimp only at ha); (repeat rw [World.size_alloc] at ha); (try simp only [allH] at ha); (try simp only [ext] at ha); (try simp only [extU] at ha); (try simp only [Nat.reduceAdd] at ha); (try simp only [Nat.reduceEqDiff] at ha); (try simp only [reduceIte] at ha); (try simp only [if_true] at ha); (try simp only [if_false] at ha); (try simp only [and_true] at ha); (try simp only [true_and] at ha); have hc := h.cell; have hf := h.frozen
      (try obtain ha := ha); (try dsimp only);  simp only [ha]; clear ha hdi 
      have c3 := c2 _ ⟨hB2.1.call h.bel, hB2.2.call h.bel⟩
      have hg3 := gr_bel hg2 h.bel
      have hin3 := hin.call h.bel
      have hQ3 := hQ.call h.bel
      have bx3 := bx.call h.bel
      clear h hc hf c1 c2 x0 x1 x2 x3 x4 xl y0 y1 y2 y3 y4 y5 yl q0 ql bz hin hQ bx hB2 hg2
      go_wp2_with fail
      ((with_reducible refine c3.mono ?_))
      rintro e w5 ⟨rfl, hB5, hg5⟩
      have hin5 := hin3.grown hg5 hb0
      have hQ5 := hQ3.grown hg5 (by simp; omega)
      have bx5 := bx3.grown hg5 (by simp; omega)
      have hg6 := hg3.trans hg5
      have e7 : setF F i col (F i col + z) = addF F (i, col, z) := rfl
      rw [e7, ← HF.out] at hB5
      have hs5 := HSZ.out
      rw [← HF.out] at hs5
      have K1 := Lib.hid (And.intro hB5 (And.intro hs5 hg6))
      clear c3 hg5 hin3 hQ3 bx3 hg3 hB5 hs5 hg6 e7
      go_wp2_with fail
      exact ⟨⟨m + 1, by omega, by go_num, hin5, hQ5, bx5, K1.out.1, K1.out.2.1, K1.out.2.2⟩, by simp [RowKit.intOf]; omega⟩
    · obtain rfl : m = K := by omega
      have hmI : ¬ (m : Int) < m := by omega
      rw [List.take_of_length_le (by rw [← HK.out]; exact Nat.le_refl _)] at hB
      have K1 := Lib.hid (And.intro hB hg)
      clear hB hg hsz hin hQ bx
      go_wp2_with fail
      go_end0
      exact ⟨rfl, K1.out.1, K1.out.2⟩
set_option maxRecDepth 100000 in
set_option maxHeartbeats 4000000 in
theorem smul_any {j l : Nat} (w : World) (u v : Value) (r c r' c' : Nat) (f g : Nat → Nat → Rat) (h1 : SpM w u r c f) (h2 : SpM w v r' c' g) (hr : r ≤ 2048) (hc : c ≤ 2048) (hr' : r' ≤ 2048) (hc' : c' ≤ 2048) (hz : ∀ i k, SzK j (f i k)) (hl : ∀ i k, SzK l (g i k)) (hcap : r * c * (c' * (j + l + 1)) + 1 < 17592186044416) (hcap2 : r * c * c' < 17592186044416) :
    Calls Tryz.prog 46 #[u, v] w fun e w' => (∃ d e', e = .returned (.tuple #[d, .int .i64 e']) ∧ PRes (!decide (c = r')) r c' (mulF c f g) w' d e') ∧ Below w.heap.size w w' := by
  have HS := Lib.hid h1
  have HT := Lib.hid h2
  obtain ⟨a, k, rfl⟩ := h1.shape
  obtain ⟨a', k', rfl⟩ := h2.shape
  have c1 := fun W b (hW : Below w.heap.size w W) h => sall_two W b r c r' c' k k' a a' f g h (h1.call hW) (h2.call hW) hr hc hr' hc'
  have hbg := begun_any r c'
  obtain ⟨X, hX⟩ : ∃ X, X = w.heap.size := ⟨_, rfl⟩
  have HX := Lib.hid hX
  have HZ := Lib.hid hz
  have HL := Lib.hid hl
  have HCP := Lib.hid (And.intro hcap hcap2)
  clear h1 h2 hz hl hcap hcap2
  go_enter Tryz.func46, Tryz.ntmps46
  go_wp2_with fail
  ((with_reducible refine (c1 _ _ ?_ ?_).mono ?_))
  · exact (((((In.self w).alloc _).alloc _).alloc _).alloc _).bel
  · exact Bx.new_at _ _ _ (by simp)
  rintro e w2 ⟨rfl, hb⟩
  have hin := (((((In.self w).alloc (.cells #[.int .i64 r, .int .i64 c, .slice a r k] 63)).alloc (.cells #[.int .i64 r', .int .i64 c', .slice a' r' k'] 63)).alloc (.cells #[.int .i64 0, .int .i64 0, .slice none 0 0] 63)).alloc (.cells #[.int .i64 r, .int .i64 c, .slice a r k, .int .i64 r', .int .i64 c', .slice a' r' k'] 63)).call hb
  have bx := ((((Bx.new_at w #[.int .i64 r, .int .i64 c, .slice a r k] 63 hX).alloc (.cells #[.int .i64 r', .int .i64 c', .slice a' r' k'] 63)).alloc (.cells #[.int .i64 0, .int .i64 0, .slice none 0 0] 63)).alloc (.cells #[.int .i64 r, .int .i64 c, .slice a r k, .int .i64 r', .int .i64 c', .slice a' r' k'] 63)).call hb
  have by_ := (((Bx.new_at (w.alloc (.cells #[.int .i64 r, .int .i64 c, .slice a r k] 63)) #[.int .i64 r', .int .i64 c', .slice a' r' k'] 63 (n := X + 1) (by rw [World.size_alloc, hX])).alloc (.cells #[.int .i64 0, .int .i64 0, .slice none 0 0] 63)).alloc (.cells #[.int .i64 r, .int .i64 c, .slice a r k, .int .i64 r', .int .i64 c', .slice a' r' k'] 63)).call hb
  have bq := ((Bx.new_at ((w.alloc (.cells #[.int .i64 r, .int .i64 c, .slice a r k] 63)).alloc (.cells #[.int .i64 r', .int .i64 c', .slice a' r' k'] 63)) #[.int .i64 0, .int .i64 0, .slice none 0 0] 63 (n := X + 1 + 1) (by rw [World.size_alloc, World.size_alloc, hX])).alloc (.cells #[.int .i64 r, .int .i64 c, .slice a r k, .int .i64 r', .int .i64 c', .slice a' r' k'] 63)).call hb
  rw [← hX]
  clear hX hb c1
  have x0 := bx.c0
  have x1 := bx.c1
  have xl := bx.lt
  have y0 := by_.c0
  have y1 := by_.c1
  have yl := by_.lt
  by_cases he : c = r'
  · subst he
    go_wp2_with fail
    ((with_reducible refine (hbg _).mono ?_))
    rintro e w3 ⟨rfl, hB, hb⟩
    obtain ⟨b, hb0⟩ : ∃ b, b = w2.heap.size := ⟨_, rfl⟩
    have hXb : X + 1 + 1 < b := by have := bq.lt; omega
    rw [← hb0] at hB ⊢
    replace hin := hin.call hb
    replace bx := bx.call hb
    replace by_ := by_.call hb
    replace bq := bq.call hb
    have HB := Lib.hid hB
    clear hb hbg hb0 hB x0 x1 xl y0 y1 yl
    have x0 := bx.c0
    have x1 := bx.c1
    have x2 := bx.c2
    have xl := bx.lt
    go_wp2_with fail
    obtain ⟨q, hq⟩ : ∃ q, q = w3.heap.size := ⟨_, rfl⟩
    have bp := Bx.new_at w3 #[.pointer (some ⟨b + 1, 0, none⟩)] 24 hq
    have hB3 : BB (w3.alloc (.cells #[.pointer (some ⟨b + 1, 0, none⟩)] 24)) (b + 1) b 0 r c' (fun _ _ => 0) := ⟨HB.out.1.alloc _, HB.out.2.alloc _⟩
    have hbq : b + 1 < q := by rw [hq]; exact HB.out.1.lt
    replace hin := hin.alloc (.cells #[.pointer (some ⟨b + 1, 0, none⟩)] 24)
    replace by_ := by_.alloc (.cells #[.pointer (some ⟨b + 1, 0, none⟩)] 24)
    replace bq := bq.alloc (.cells #[.pointer (some ⟨b + 1, 0, none⟩)] 24)
    rw [← hq]
    clear bx hq x0 x1 x2 xl HB
    generalize w3.alloc (.cells #[.pointer (some ⟨b + 1, 0, none⟩)] 24) = W3 at *
    have hT := items_length r c f
    obtain ⟨T, hTT⟩ : ∃ T, T = (items r c f).length := ⟨_, rfl⟩
    have hTr : T ≤ r * c := by rw [hTT]; exact hT
    have hTb := Nat.mul_le_mul_right (c' * (j + l + 1)) hTr
    have hTc := Nat.mul_le_mul_right c' hTr
    have he := each_buildL w W3 (.agg #[.int .i64 r, .int .i64 c, .slice a r k]) r c f 104 #[.pointer (some ⟨X + 1, 0, none⟩), .pointer (some ⟨q, 0, none⟩)] (enters_of Tryz.func104 (by kernel_rfl) rfl) (mulL c' g) (b + 1) b r c' (j + l) c' HS.out hin (by rw [← HX.out]; omega) hr hc hB3
      (fun ⟨i, t, x⟩ hx => ⟨mulL_length c' g _, fun y hy => by
        obtain ⟨⟨m, y2⟩, hy2, rfl⟩ := List.mem_map.1 hy
        have := mem_items.1 hx
        have h3 := mem_rowOf.1 hy2
        simp only
        rw [this.2.2.2, h3.2.2]
        exact (HZ.out i t).mul (HL.out _ _)⟩)
      (fun i t x W n f' hx hg hBW hsz hn => by
        have hm := mem_items.1 hx
        have hT0 : 0 < T := by rw [hTT]; exact List.length_pos_of_mem hx
        rw [← hTT] at hsz hn
        have hTs : (T - 1) * (c' * (j + l + 1)) + c' * (j + l + 1) = T * (c' * (j + l + 1)) := by
          rw [← Nat.succ_mul]; congr 1; omega
        have hTn : (T - 1) * c' + c' = T * c' := by
          rw [← Nat.succ_mul]; congr 1; omega
        have hcp := HCP.out
        exact smul1_any (j := j) (l := l) w W (X + 1) q (b + 1) b n r c c' k' i t a' x f' g HT.out ⟨hin.bel.grown hg hin.siz (fun k h => by cases h; rw [← HX.out]; omega), Nat.le_trans hin.siz hg.size⟩ (by rw [← HX.out]; omega) (by_.grown hg (by simp; omega)) (by omega) (bp.grown hg (by simp; omega)) (by omega) hBW hm.1 hm.2.1 hr hc' hc (by simp only [maxLen]; omega) (by omega) hsz (by rw [hm.2.2.2]; exact HZ.out i t) HL.out (by omega))
    ((with_reducible refine he.mono ?_))
    rintro e w4 ⟨rfl, ⟨n4, hB4⟩, hg4⟩
    have bp4 := bp.grown hg4 (by simp; omega)
    have bq4 := bq.grown hg4 (by simp; omega)
    have hin4 := hin.grown hg4 (by have := HX.out; omega)
    have hsp := bsparse_any w4 (b + 1) b _ r c' _ hB4 hr hc'
    have q0 := bp4.c0
    have hql := bp4.lt
    clear he hg4 by_ bq hin bp hB3 hB4
    go_wp2_with fail
    ((with_reducible refine hsp.mono ?_))
    rintro e w5 ⟨v5, rfl, hv5, hb5⟩
    have br := bq4
    rw [← HX.out] at hin4
    have hin := hin4
    have hXw := hin.siz
    clear bq4 bp4 hin4 q0 hql hsp
    ((obtain ⟨R, h5⟩ : ∃ R, v5 = .agg #[(.int .i64 ((r : Nat) : Int)), (.int .i64 ((c' : Nat) : Int)), (.slice (some ⟨R, 0, none⟩) (r) (r))] := by (obtain ⟨R, _, h, _⟩ := hv5; exact ⟨R, h⟩)); (have br5 := br.call hb5); (have hin5 := hin.call hb5); (have hXl := br.lt); (have hv7 := ((SpOwn.other (a := ⟨(X + 1 + 1), 0, none⟩) hv5 hXl (.int .i64 ((r : Nat) : Int))).other (a := ⟨(X + 1 + 1), 1, none⟩) hXl (.int .i64 ((c' : Nat) : Int))).other (a := ⟨(X + 1 + 1), 2, none⟩) hXl (.slice (some ⟨R, 0, none⟩) (r) (r))); (have br6 := ((br5.set 0 (.int .i64 ((r : Nat) : Int))).set 1 (.int .i64 ((c' : Nat) : Int))).set 2 (.slice (some ⟨R, 0, none⟩) (r) (r))); (have hin6 := ((hin5.setCell (p := ⟨(X + 1 + 1), 0, none⟩) (by first | (simp; done) | (simp; omega)) (.int .i64 ((r : Nat) : Int))).setCell (p := ⟨(X + 1 + 1), 1, none⟩) (by first | (simp; done) | (simp; omega)) (.int .i64 ((c' : Nat) : Int))).setCell (p := ⟨(X + 1 + 1), 2, none⟩) (by first | (simp; done) | (simp; omega)) (.slice (some ⟨R, 0, none⟩) (r) (r))); (have f0 := br5.frozen 0); (have f1 := br5.frozen 1); (have f2 := br5.frozen 2); (have b0 := br5.c0); (have b1 := br5.c1); (have b2 := br5.c2); (have hl5 := br5.lt); (subst h5); (have H1 := Lib.hid hv7); (have H2 := Lib.hid br6); (have H3 := Lib.hid hin6); (clear hv7 br6 hin6 hv5 hb5 br br5 hin hin5); (go_wp2_with fail); (have h1 := H1.out); (have h2 := H2.out); (have h3 := H3.out); (clear H1 H2 H3 f0 f1 f2 b0 b1 b2 hl5); (generalize ((w5.setCell ⟨(X + 1 + 1), 0, none⟩ (.int .i64 ((r : Nat) : Int))).setCell ⟨(X + 1 + 1), 1, none⟩ (.int .i64 ((c' : Nat) : Int))).setCell ⟨(X + 1 + 1), 2, none⟩ (.slice (some ⟨R, 0, none⟩) (r) (r)) = W6 at *); (have e0 : W6.cell? ⟨(X + 1 + 1), 0, none⟩ = some (.int .i64 ((r : Nat) : Int)) := h2.cell 0); (have e1 : W6.cell? ⟨(X + 1 + 1), 1, none⟩ = some (.int .i64 ((c' : Nat) : Int)) := h2.cell 1); (have e2 : W6.cell? ⟨(X + 1 + 1), 2, none⟩ = some (.slice (some ⟨R, 0, none⟩) (r) (r)) := h2.cell 2); (have hfin := SpOwn.mono h1 (show w.heap.size ≤ (World.heap w4).size by rw [← HX.out]; omega)); (have hbelow : Below w.heap.size w W6 := h3.bel.mono (by have := HX.out; omega)); (refine bodyPost_ret (v := .tuple #[.agg #[(.int .i64 ((r : Nat) : Int)), (.int .i64 ((c' : Nat) : Int)), (.slice (some ⟨R, 0, none⟩) (r) (r))], .int .i64 0]) ?_ rfl ⟨⟨_, _, rfl, ⟨_, _, _, _, _, rfl⟩, .inr ⟨by simp, rfl, SpN.m (SpN.congr (f := foldA (fun _ _ => 0) ((items r c f).flatMap (mulL c' g))) hfin (fun i t hi ht => mul_sum r c c' f g hi ht))⟩⟩, hbelow⟩); (simp [results, Tryz.results46, go_sem, e0, e1, e2]))
  · have HSD : Hid ((!decide (c = r')) = true) := Lib.hid (by simp [he])
    have h3 : ((c : Int) != r') = true := by
      have : ¬ (c : Int) = r' := by omega
      simpa using this
    clear he hbg
    ((have r0 := bq.c0);
              (have r1 := bq.c1);
              (have r2 := bq.c2);
              (have f0 := bq.frozen 0);
              (have f1 := bq.frozen 1);
              (have f2 := bq.frozen 2);
              (have hrl := bq.lt);
              (have H1 := Lib.hid (((bq.set 0 (.int .i64 0)).set 1 (.int .i64 0)).set 2 (.slice none 0 0)));
              (have H2 := Lib.hid (((hin.setCell (p := ⟨(X + 1 + 1), 0, none⟩) (by have := HX.out; simp; omega) (.int .i64 0)).setCell (p := ⟨(X + 1 + 1), 1, none⟩) (by have := HX.out; simp; omega) (.int .i64 0)).setCell (p := ⟨(X + 1 + 1), 2, none⟩) (by have := HX.out; simp; omega) (.slice none 0 0)));
              (clear bq hin bx);
              (go_wp2_with fail);
              (have g1 := H1.out);
              (have g2 := H2.out);
              (clear H1 H2 r0 r1 r2 f0 f1 f2 hrl);
              (generalize ((w2.setCell ⟨(X + 1 + 1), 0, none⟩ (.int .i64 0)).setCell ⟨(X + 1 + 1), 1, none⟩ (.int .i64 0)).setCell ⟨(X + 1 + 1), 2, none⟩ (.slice none 0 0) = W5 at *);
              (have e0 : W5.cell? ⟨(X + 1 + 1), 0, none⟩ = some (.int .i64 0) := g1.cell 0);
              (have e1 : W5.cell? ⟨(X + 1 + 1), 1, none⟩ = some (.int .i64 0) := g1.cell 1);
              (have e2 : W5.cell? ⟨(X + 1 + 1), 2, none⟩ = some (.slice none 0 0) := g1.cell 2);
              (have hz := g2.bel);
              (refine bodyPost_ret (v := .tuple #[zeroSp, .int .i64 1]) ?_ rfl ⟨⟨_, _, rfl, ⟨_, _, _, _, _, rfl⟩, .inl ⟨HSD.out, rfl, rfl⟩⟩, hz⟩);
              (simp [results, Tryz.results46, go_sem, e0, e1, e2]))
end Gus
end
section
/- sparses.Add. -/
namespace Gus
open Go Go.RowKit Go.Proofs
set_option maxRecDepth 100000 in
set_option maxHeartbeats 1000000 in
theorem sadd1_any {s j : Nat} (W : World) (q p b n N M : Nat) (f : Nat → Nat → Rat) (i k : Nat) (x : Rat) (hq : W.cell? ⟨q, 0, none⟩ = some (.pointer (some ⟨p, 0, none⟩))) (hB : BB W p b n N M f) (hi : i < N) (hk : k < M) (hN : N ≤ 2048) (hM : M ≤ 2048) (hn : n < maxLen) (hpb : p ≠ b)
    (hs : SzK s (f i k)) (hj : SzK j x) (hsj : s + j + 1 < 17592186044416) :
    Calls Tryz.prog 102 #[.int .i64 i, .int .i64 k, fracV x, .pointer (some ⟨q, 0, none⟩)] W fun e w' => e = .returned (.tuple #[]) ∧ BB w' p b (n + 1) N M (setF f i k (f i k + x)) ∧ W.grownBy w' (some b) := by
  have h4 := fun o => badd_in (W.alloc o) p b n N M f i k x ⟨hB.1.alloc o, hB.2.alloc o⟩ hi hk hN hM hn hpb hs hj hsj
  have hqW := World.block_lt_of_cell? W _ hq
  simp only at hqW
  clear hB hs hj hsj
  go_enter Tryz.func102, Tryz.ntmps102
  go_wp2_with fail
  ((with_reducible refine (h4 _).mono ?_))
  rintro e w' ⟨rfl, hB2, hg⟩
  have HB := Lib.hid hB2
  have HG := Lib.hid ((World.grownBy_alloc W _ (some b)).trans hg)
  clear hB2 hg h4
  go_wp2_with fail
  go_end0
  exact ⟨rfl, HB.out, HG.out⟩
/-- the sum as it grows by the first p matrices -/
def addS (r c : Nat) (f g : Nat → Nat → Rat) : Nat → Nat → Nat → Rat
  | 0 => fun _ _ => 0
  | 1 => foldA (fun _ _ => 0) (items r c f)
  | _ => foldA (foldA (fun _ _ => 0) (items r c f)) (items r c g)
theorem items_sz {r c j : Nat} {f : Nat → Nat → Rat} (hz : ∀ i k, SzK j (f i k)) : ∀ x ∈ items r c f, SzK j x.2.2 := fun ⟨i, k, x⟩ hx => by
  have := mem_items.1 hx
  simp only
  rw [this.2.2.2]; exact hz i k
set_option maxRecDepth 100000 in
set_option maxHeartbeats 4000000 in
theorem sadd_any {j l : Nat} (w : World) (u v : Value) (r c r' c' : Nat) (f g : Nat → Nat → Rat) (h1 : SpM w u r c f) (h2 : SpM w v r' c' g) (hr : r ≤ 2048) (hc : c ≤ 2048) (hr' : r' ≤ 2048) (hc' : c' ≤ 2048) (hz : ∀ i k, SzK j (f i k)) (hl : ∀ i k, SzK l (g i k)) (hcap : r * c * (j + 1) + r' * c' * (l + 1) + 1 < 17592186044416) :
    Calls Tryz.prog 44 #[u, v] w fun e w' => (∃ d e', e = .returned (.tuple #[d, .int .i64 e']) ∧ PRes (sizesDiffer r c r' c') r c (fun i k => f i k + g i k) w' d e') ∧ Below w.heap.size w w' := by
  have HS := Lib.hid h1
  have HT := Lib.hid h2
  obtain ⟨a, k, rfl⟩ := h1.shape
  obtain ⟨a', k', rfl⟩ := h2.shape
  have c1 := fun W b (hW : Below w.heap.size w W) h => sall_two W b r c r' c' k k' a a' f g h (h1.call hW) (h2.call hW) hr hc hr' hc'
  have hbg := begun_any r c
  obtain ⟨X, hX⟩ : ∃ X, X = w.heap.size := ⟨_, rfl⟩
  have HX := Lib.hid hX
  have HZ := Lib.hid hz
  have HL := Lib.hid hl
  have HCP := Lib.hid hcap
  clear h1 h2 hz hl hcap
  go_enter Tryz.func44, Tryz.ntmps44
  go_wp2_with fail
  ((with_reducible refine (c1 _ _ ?_ ?_).mono ?_))
  · exact (((((In.self w).alloc _).alloc _).alloc _).alloc _).bel
  · exact Bx.new_at _ _ _ (by simp)
  rintro e w2 ⟨rfl, hb⟩
  have hin := (((((In.self w).alloc (.cells #[.int .i64 r, .int .i64 c, .slice a r k] 63)).alloc (.cells #[.int .i64 r', .int .i64 c', .slice a' r' k'] 63)).alloc (.cells #[.int .i64 0, .int .i64 0, .slice none 0 0] 63)).alloc (.cells #[.int .i64 r, .int .i64 c, .slice a r k, .int .i64 r', .int .i64 c', .slice a' r' k'] 63)).call hb
  have bx := ((((Bx.new_at w #[.int .i64 r, .int .i64 c, .slice a r k] 63 hX).alloc (.cells #[.int .i64 r', .int .i64 c', .slice a' r' k'] 63)).alloc (.cells #[.int .i64 0, .int .i64 0, .slice none 0 0] 63)).alloc (.cells #[.int .i64 r, .int .i64 c, .slice a r k, .int .i64 r', .int .i64 c', .slice a' r' k'] 63)).call hb
  have by_ := (((Bx.new_at (w.alloc (.cells #[.int .i64 r, .int .i64 c, .slice a r k] 63)) #[.int .i64 r', .int .i64 c', .slice a' r' k'] 63 (n := X + 1) (by rw [World.size_alloc, hX])).alloc (.cells #[.int .i64 0, .int .i64 0, .slice none 0 0] 63)).alloc (.cells #[.int .i64 r, .int .i64 c, .slice a r k, .int .i64 r', .int .i64 c', .slice a' r' k'] 63)).call hb
  have bq := ((Bx.new_at ((w.alloc (.cells #[.int .i64 r, .int .i64 c, .slice a r k] 63)).alloc (.cells #[.int .i64 r', .int .i64 c', .slice a' r' k'] 63)) #[.int .i64 0, .int .i64 0, .slice none 0 0] 63 (n := X + 1 + 1) (by rw [World.size_alloc, World.size_alloc, hX])).alloc (.cells #[.int .i64 r, .int .i64 c, .slice a r k, .int .i64 r', .int .i64 c', .slice a' r' k'] 63)).call hb
  rw [← hX]
  clear hX hb c1
  have x0 := bx.c0
  have x1 := bx.c1
  have xl := bx.lt
  have y0 := by_.c0
  have y1 := by_.c1
  have yl := by_.lt
  by_cases he : r = r' ∧ c = c'
  · obtain ⟨rfl, rfl⟩ := he
    go_wp2_with fail
    ((with_reducible refine (hbg _).mono ?_))
    rintro e w3 ⟨rfl, hB, hb⟩
    obtain ⟨b, hb0⟩ : ∃ b, b = w2.heap.size := ⟨_, rfl⟩
    have hXb : X + 1 + 1 < b := by have := bq.lt; omega
    rw [← hb0] at hB ⊢
    replace hin := hin.call hb
    replace bx := bx.call hb
    replace by_ := by_.call hb
    replace bq := bq.call hb
    have HB := Lib.hid hB
    clear hb hbg hb0 hB x0 x1 xl y0 y1 yl
    have x0 := bx.c0
    have x1 := bx.c1
    have x2 := bx.c2
    have xl := bx.lt
    have y0 := by_.c0
    have y1 := by_.c1
    have y2 := by_.c2
    have yl := by_.lt
    go_wp2_with fail
    obtain ⟨q, hq⟩ : ∃ q, q = w3.heap.size := ⟨_, rfl⟩
    have bp := (Bx.new_at w3 #[.pointer (some ⟨b + 1, 0, none⟩)] 24 hq).alloc (.cells #[.int .i64 r, .int .i64 c, .slice a r k, .int .i64 r, .int .i64 c, .slice a' r k'] 63)
    have bz := Bx.new_at (w3.alloc (.cells #[.pointer (some ⟨b + 1, 0, none⟩)] 24)) #[.int .i64 r, .int .i64 c, .slice a r k, .int .i64 r, .int .i64 c, .slice a' r k'] 63 (n := q + 1) (by rw [World.size_alloc, hq])
    have hB3 : BB ((w3.alloc (.cells #[.pointer (some ⟨b + 1, 0, none⟩)] 24)).alloc (.cells #[.int .i64 r, .int .i64 c, .slice a r k, .int .i64 r, .int .i64 c, .slice a' r k'] 63)) (b + 1) b 0 r c (fun _ _ => 0) := ⟨(HB.out.1.alloc _).alloc _, (HB.out.2.alloc _).alloc _⟩
    have hbq : b + 1 < q := by rw [hq]; exact HB.out.1.lt
    replace hin := (hin.alloc (.cells #[.pointer (some ⟨b + 1, 0, none⟩)] 24)).alloc (.cells #[.int .i64 r, .int .i64 c, .slice a r k, .int .i64 r, .int .i64 c, .slice a' r k'] 63)
    replace bq := (bq.alloc (.cells #[.pointer (some ⟨b + 1, 0, none⟩)] 24)).alloc (.cells #[.int .i64 r, .int .i64 c, .slice a r k, .int .i64 r, .int .i64 c, .slice a' r k'] 63)
    rw [← hq]
    clear bx by_ hq x0 x1 x2 xl y0 y1 y2 yl HB
    generalize (w3.alloc (.cells #[.pointer (some ⟨b + 1, 0, none⟩)] 24)).alloc (.cells #[.int .i64 r, .int .i64 c, .slice a r k, .int .i64 r, .int .i64 c, .slice a' r k'] 63) = W3 at *
    have hT := items_length r c f
    have hT' := items_length r c g
    obtain ⟨T, hTT⟩ : ∃ T, T = (items r c f).length := ⟨_, rfl⟩
    obtain ⟨U, hUU⟩ : ∃ U, U = (items r c g).length := ⟨_, rfl⟩
    have hTb : T * (j + 1) ≤ r * c * (j + 1) := by rw [hTT]; exact Nat.mul_le_mul_right _ hT
    have hUb : U * (l + 1) ≤ r * c * (l + 1) := by rw [hUU]; exact Nat.mul_le_mul_right _ hT'
    have hT4 : T ≤ 4194304 := by rw [hTT]; exact Nat.le_trans hT (Nat.mul_le_mul hr hc)
    have hU4 : U ≤ 4194304 := by rw [hUU]; exact Nat.le_trans hT' (Nat.mul_le_mul hr hc)
    have hcp := HCP.out
    have hsz1 : ∀ a e, SzK (1 + T * (j + 1)) (foldA (fun _ _ => 0) (items r c f) a e) := fun a e => by
      rw [hTT]; exact SzK_foldAs (items r c f) (s := 1) (f := fun _ _ => 0) (fun _ _ => SzK.zero) (items_sz HZ.out) a e
    have e1 := fun (W : World) (h0 : In w.heap.size w W) (h1 : BB W (b + 1) b 0 r c (fun _ _ => 0)) (h2 : Bx W q 24 [.pointer (some ⟨b + 1, 0, none⟩)]) => each_build w W (.agg #[.int .i64 r, .int .i64 c, .slice a r k]) r c f 102 #[.pointer (some ⟨q, 0, none⟩)] (enters_of Tryz.func102 (by kernel_rfl) rfl) id (b + 1) b 0 r c j 1 (fun _ _ => 0) HS.out h0 (by rw [← HX.out]; omega) hr hc h1 (fun _ _ => SzK.zero)
      (fun x hx => ⟨(mem_items.1 (show (x.1, x.2.1, x.2.2) ∈ _ from hx)).1, (mem_items.1 (show (x.1, x.2.1, x.2.2) ∈ _ from hx)).2.1, items_sz HZ.out x hx⟩) (by rw [← hTT]; simp only [maxLen]; omega)
      (fun i t x W2 n f' hx hg hBW hsz hn => by
        have hm := mem_items.1 hx
        have hT0 : 0 < T := by rw [hTT]; exact List.length_pos_of_mem hx
        rw [← hTT] at hsz
        have hTj : j + 1 ≤ T * (j + 1) := Nat.le_mul_of_pos_left _ hT0
        exact sadd1_any W2 q (b + 1) b n r c f' i t x ((Bx.grown (h2 : Bx W q 24 [.pointer (some ⟨b + 1, 0, none⟩)]) hg (by simp; omega)).c0) hBW hm.1 hm.2.1 hr hc hn (by omega) (hsz i t) (items_sz HZ.out _ hx) (by omega))
    have e2 := fun (W : World) (h0 : In w.heap.size w W) (h1 : BB W (b + 1) b T r c (foldA (fun _ _ => 0) (items r c f))) (h2 : Bx W q 24 [.pointer (some ⟨b + 1, 0, none⟩)]) => each_build w W (.agg #[.int .i64 r, .int .i64 c, .slice a' r k']) r c g 102 #[.pointer (some ⟨q, 0, none⟩)] (enters_of Tryz.func102 (by kernel_rfl) rfl) id (b + 1) b T r c l (1 + T * (j + 1)) (foldA (fun _ _ => 0) (items r c f)) HT.out h0 (by rw [← HX.out]; omega) hr hc h1 hsz1
      (fun x hx => ⟨(mem_items.1 (show (x.1, x.2.1, x.2.2) ∈ _ from hx)).1, (mem_items.1 (show (x.1, x.2.1, x.2.2) ∈ _ from hx)).2.1, items_sz HL.out x hx⟩) (by rw [← hUU]; simp only [maxLen]; omega)
      (fun i t x W2 n f' hx hg hBW hsz hn => by
        have hm := mem_items.1 hx
        have hT0 : 0 < U := by rw [hUU]; exact List.length_pos_of_mem hx
        rw [← hUU] at hsz
        have hTj : l + 1 ≤ U * (l + 1) := Nat.le_mul_of_pos_left _ hT0
        exact sadd1_any W2 q (b + 1) b n r c f' i t x ((Bx.grown (h2 : Bx W q 24 [.pointer (some ⟨b + 1, 0, none⟩)]) hg (by simp; omega)).c0) hBW hm.1 hm.2.1 hr hc hn (by omega) (hsz i t) (items_sz HL.out _ hx) (by omega))
    rw [List.map_id, ← hTT, Nat.zero_add] at e1
    rw [List.map_id] at e2
    have E1 := Lib.hid e1
    have E2 := Lib.hid e2
    clear e1 e2 hsz1 hT hT' hTb hUb hT4 hU4 hTT hUU hcp
    go_loopw [42] (fun v42 wr => ∃ p : Nat, p ≤ 2 ∧ v42 = .int .i64 p ∧ In w.heap.size w wr ∧ Bx wr q 24 [.pointer (some ⟨b + 1, 0, none⟩)] ∧ Bx wr (q + 1) 63 [.int .i64 r, .int .i64 c, .slice a r k, .int .i64 r, .int .i64 c, .slice a' r k'] ∧ Bx wr (X + 1 + 1) 63 [.int .i64 0, .int .i64 0, .slice none 0 0] ∧ ∃ n, (p = 0 → n = 0) ∧ (p = 1 → n = T) ∧ BB wr (b + 1) b n r c (addS r c f g p)) (fun v42 _ => 2 - (RowKit.intOf v42).toNat)
    case atStart => exact ⟨0, by decide, rfl, hin, bp, bz, bq, 0, fun _ => rfl, fun h => (by cases h), hB3⟩
    case round =>
      clear hin bp bz bq hB3
      obtain ⟨p, hp, rfl, hin, bp, bz, bq, n, hn0, hn1, hB⟩ := hrel
      have z0 := bz.c0
      have z1 := bz.c1
      have z2 := bz.c2
      have z3 := bz.c3
      have z4 := bz.c4
      have z5 := bz.c5
      have zl := bz.lt
      have q0 := bp.c0
      have ql := bp.lt
      match p, hp with
      | 0, _ =>
        obtain rfl := hn0 rfl
        have e3 := E1.out _ (hin.alloc (.cells #[.int .i64 r, .int .i64 c, .slice a r k] 63)) ⟨hB.1.alloc _, hB.2.alloc _⟩ (bp.alloc _)
        have HB := Lib.hid hB
        clear hB hn0 hn1
        go_wp2_with fail
        ((with_reducible refine e3.mono ?_))
        rintro e w4 ⟨rfl, hB4, hg⟩
        have bp4 := (bp.alloc (.cells #[.int .i64 r, .int .i64 c, .slice a r k] 63)).grown hg (by simp; omega)
        have bz4 := (bz.alloc (.cells #[.int .i64 r, .int .i64 c, .slice a r k] 63)).grown hg (by simp; omega)
        have bq4 := (bq.alloc (.cells #[.int .i64 r, .int .i64 c, .slice a r k] 63)).grown hg (by simp; omega)
        have hin4 := (hin.alloc (.cells #[.int .i64 r, .int .i64 c, .slice a r k] 63)).grown hg (by have := HX.out; omega)
        clear e3 hg hin bp bz bq z0 z1 z2 z3 z4 z5 zl q0 ql HB
        have HB := Lib.hid hB4
        clear hB4
        go_wp2_with fail
        exact ⟨⟨1, by decide, rfl, hin4, bp4, bz4, bq4, T, fun h => (by cases h), fun _ => rfl, HB.out⟩, by simp [RowKit.intOf]⟩
      | 1, _ =>
        obtain rfl := hn1 rfl
        have e3 := E2.out _ (hin.alloc (.cells #[.int .i64 r, .int .i64 c, .slice a' r k'] 63)) ⟨hB.1.alloc _, hB.2.alloc _⟩ (bp.alloc _)
        have HB := Lib.hid hB
        clear hB hn0 hn1
        go_wp2_with fail
        ((with_reducible refine e3.mono ?_))
        rintro e w4 ⟨rfl, hB4, hg⟩
        have bp4 := (bp.alloc (.cells #[.int .i64 r, .int .i64 c, .slice a' r k'] 63)).grown hg (by simp; omega)
        have bz4 := (bz.alloc (.cells #[.int .i64 r, .int .i64 c, .slice a' r k'] 63)).grown hg (by simp; omega)
        have bq4 := (bq.alloc (.cells #[.int .i64 r, .int .i64 c, .slice a' r k'] 63)).grown hg (by simp; omega)
        have hin4 := (hin.alloc (.cells #[.int .i64 r, .int .i64 c, .slice a' r k'] 63)).grown hg (by have := HX.out; omega)
        clear e3 hg hin bp bz bq z0 z1 z2 z3 z4 z5 zl q0 ql HB
        have HB := Lib.hid hB4
        clear hB4
        go_wp2_with fail
        exact ⟨⟨2, by decide, rfl, hin4, bp4, bz4, bq4, _, fun h => (by cases h), fun h => (by cases h), HB.out⟩, by simp [RowKit.intOf]⟩
      | 2, _ =>
        have hsp := bsparse_any wr (b + 1) b _ r c _ hB hr hc
        clear hn0 hn1 hB z0 z1 z2 z3 z4 z5 zl bz E1 E2
        go_wp2_with fail
        ((with_reducible refine hsp.mono ?_))
        rintro e w5 ⟨v5, rfl, hv5, hb5⟩
        have br := bq
        rw [← HX.out] at hin
        have hXw := hin.siz
        clear bq bp q0 ql hsp
        ((obtain ⟨R, h5⟩ : ∃ R, v5 = .agg #[(.int .i64 ((r : Nat) : Int)), (.int .i64 ((c : Nat) : Int)), (.slice (some ⟨R, 0, none⟩) (r) (r))] := by (obtain ⟨R, _, h, _⟩ := hv5; exact ⟨R, h⟩)); (have br5 := br.call hb5); (have hin5 := hin.call hb5); (have hXl := br.lt); (have hv7 := ((SpOwn.other (a := ⟨(X + 1 + 1), 0, none⟩) hv5 hXl (.int .i64 ((r : Nat) : Int))).other (a := ⟨(X + 1 + 1), 1, none⟩) hXl (.int .i64 ((c : Nat) : Int))).other (a := ⟨(X + 1 + 1), 2, none⟩) hXl (.slice (some ⟨R, 0, none⟩) (r) (r))); (have br6 := ((br5.set 0 (.int .i64 ((r : Nat) : Int))).set 1 (.int .i64 ((c : Nat) : Int))).set 2 (.slice (some ⟨R, 0, none⟩) (r) (r))); (have hin6 := ((hin5.setCell (p := ⟨(X + 1 + 1), 0, none⟩) (by first | (simp; done) | (simp; omega)) (.int .i64 ((r : Nat) : Int))).setCell (p := ⟨(X + 1 + 1), 1, none⟩) (by first | (simp; done) | (simp; omega)) (.int .i64 ((c : Nat) : Int))).setCell (p := ⟨(X + 1 + 1), 2, none⟩) (by first | (simp; done) | (simp; omega)) (.slice (some ⟨R, 0, none⟩) (r) (r))); (have f0 := br5.frozen 0); (have f1 := br5.frozen 1); (have f2 := br5.frozen 2); (have b0 := br5.c0); (have b1 := br5.c1); (have b2 := br5.c2); (have hl5 := br5.lt); (subst h5); (have H1 := Lib.hid hv7); (have H2 := Lib.hid br6); (have H3 := Lib.hid hin6); (clear hv7 br6 hin6 hv5 hb5 br br5 hin hin5); (go_wp2_with fail); (have h1 := H1.out); (have h2 := H2.out); (have h3 := H3.out); (clear H1 H2 H3 f0 f1 f2 b0 b1 b2 hl5); (generalize ((w5.setCell ⟨(X + 1 + 1), 0, none⟩ (.int .i64 ((r : Nat) : Int))).setCell ⟨(X + 1 + 1), 1, none⟩ (.int .i64 ((c : Nat) : Int))).setCell ⟨(X + 1 + 1), 2, none⟩ (.slice (some ⟨R, 0, none⟩) (r) (r)) = W6 at *); (have e0 : W6.cell? ⟨(X + 1 + 1), 0, none⟩ = some (.int .i64 ((r : Nat) : Int)) := h2.cell 0); (have e1 : W6.cell? ⟨(X + 1 + 1), 1, none⟩ = some (.int .i64 ((c : Nat) : Int)) := h2.cell 1); (have e2 : W6.cell? ⟨(X + 1 + 1), 2, none⟩ = some (.slice (some ⟨R, 0, none⟩) (r) (r)) := h2.cell 2); (have hfin := SpOwn.mono h1 (show w.heap.size ≤ (World.heap wr).size by rw [← HX.out]; omega)); (have hbelow : Below w.heap.size w W6 := h3.bel.mono (by have := HX.out; omega)); (refine bodyPost_ret (v := .tuple #[.agg #[(.int .i64 ((r : Nat) : Int)), (.int .i64 ((c : Nat) : Int)), (.slice (some ⟨R, 0, none⟩) (r) (r))], .int .i64 0]) ?_ rfl ⟨⟨_, _, rfl, ⟨_, _, _, _, _, rfl⟩, .inr ⟨by simp [sizesDiffer], rfl, SpN.m (SpN.congr (f := addS r c f g 2) hfin (fun i t hi ht => add_sum r c f g hi ht))⟩⟩, hbelow⟩); (simp [results, Tryz.results44, go_sem, e0, e1, e2]))
  · have HSD : Hid (sizesDiffer r c r' c' = true) := Lib.hid (by
      unfold sizesDiffer
      by_cases h1 : r = r'
      · have h2 : ¬ c = c' := fun h => he ⟨h1, h⟩
        simp [h2]
      · simp [h1])
    by_cases h1 : r = r'
    · have h2 : ((c : Int) != c') = true := by
        have : ¬ (c : Int) = c' := fun h => he ⟨h1, by omega⟩
        simpa using this
      have h3 : ((r : Int) != r') = false := by rw [h1]; simp
      clear he h1 hbg
      ((have r0 := bq.c0);
              (have r1 := bq.c1);
              (have r2 := bq.c2);
              (have f0 := bq.frozen 0);
              (have f1 := bq.frozen 1);
              (have f2 := bq.frozen 2);
              (have hrl := bq.lt);
              (have H1 := Lib.hid (((bq.set 0 (.int .i64 0)).set 1 (.int .i64 0)).set 2 (.slice none 0 0)));
              (have H2 := Lib.hid (((hin.setCell (p := ⟨(X + 1 + 1), 0, none⟩) (by have := HX.out; simp; omega) (.int .i64 0)).setCell (p := ⟨(X + 1 + 1), 1, none⟩) (by have := HX.out; simp; omega) (.int .i64 0)).setCell (p := ⟨(X + 1 + 1), 2, none⟩) (by have := HX.out; simp; omega) (.slice none 0 0)));
              (clear bq hin bx);
              (go_wp2_with fail);
              (have g1 := H1.out);
              (have g2 := H2.out);
              (clear H1 H2 r0 r1 r2 f0 f1 f2 hrl);
              (generalize ((w2.setCell ⟨(X + 1 + 1), 0, none⟩ (.int .i64 0)).setCell ⟨(X + 1 + 1), 1, none⟩ (.int .i64 0)).setCell ⟨(X + 1 + 1), 2, none⟩ (.slice none 0 0) = W5 at *);
              (have e0 : W5.cell? ⟨(X + 1 + 1), 0, none⟩ = some (.int .i64 0) := g1.cell 0);
              (have e1 : W5.cell? ⟨(X + 1 + 1), 1, none⟩ = some (.int .i64 0) := g1.cell 1);
              (have e2 : W5.cell? ⟨(X + 1 + 1), 2, none⟩ = some (.slice none 0 0) := g1.cell 2);
              (have hz := g2.bel);
              (refine bodyPost_ret (v := .tuple #[zeroSp, .int .i64 1]) ?_ rfl ⟨⟨_, _, rfl, ⟨_, _, _, _, _, rfl⟩, .inl ⟨HSD.out, rfl, rfl⟩⟩, hz⟩);
              (simp [results, Tryz.results44, go_sem, e0, e1, e2]))
    · have h3 : ((r : Int) != r') = true := by
        have : ¬ (r : Int) = r' := by omega
        simpa using this
      clear he h1 hbg
      ((have r0 := bq.c0);
              (have r1 := bq.c1);
              (have r2 := bq.c2);
              (have f0 := bq.frozen 0);
              (have f1 := bq.frozen 1);
              (have f2 := bq.frozen 2);
              (have hrl := bq.lt);
              (have H1 := Lib.hid (((bq.set 0 (.int .i64 0)).set 1 (.int .i64 0)).set 2 (.slice none 0 0)));
              (have H2 := Lib.hid (((hin.setCell (p := ⟨(X + 1 + 1), 0, none⟩) (by have := HX.out; simp; omega) (.int .i64 0)).setCell (p := ⟨(X + 1 + 1), 1, none⟩) (by have := HX.out; simp; omega) (.int .i64 0)).setCell (p := ⟨(X + 1 + 1), 2, none⟩) (by have := HX.out; simp; omega) (.slice none 0 0)));
              (clear bq hin bx);
              (go_wp2_with fail);
              (have g1 := H1.out);
              (have g2 := H2.out);
              (clear H1 H2 r0 r1 r2 f0 f1 f2 hrl);
              (generalize ((w2.setCell ⟨(X + 1 + 1), 0, none⟩ (.int .i64 0)).setCell ⟨(X + 1 + 1), 1, none⟩ (.int .i64 0)).setCell ⟨(X + 1 + 1), 2, none⟩ (.slice none 0 0) = W5 at *);
              (have e0 : W5.cell? ⟨(X + 1 + 1), 0, none⟩ = some (.int .i64 0) := g1.cell 0);
              (have e1 : W5.cell? ⟨(X + 1 + 1), 1, none⟩ = some (.int .i64 0) := g1.cell 1);
              (have e2 : W5.cell? ⟨(X + 1 + 1), 2, none⟩ = some (.slice none 0 0) := g1.cell 2);
              (have hz := g2.bel);
              (refine bodyPost_ret (v := .tuple #[zeroSp, .int .i64 1]) ?_ rfl ⟨⟨_, _, rfl, ⟨_, _, _, _, _, rfl⟩, .inl ⟨HSD.out, rfl, rfl⟩⟩, hz⟩);
              (simp [results, Tryz.results44, go_sem, e0, e1, e2]))
end Gus
end
section
/- sparses.Apply, sparses.Form for vectors of any length. -/
namespace Gus
open Go Go.RowKit Go.Proofs
theorem goes_ok {w : World} {v : Value} {r c : Nat} {f : Nat → Nat → Rat} (hS : SpM w v r c f) (hr : r ≤ 2048) (hc : c ≤ 2048) (a : Option Addr) (cap : Nat) (ns : List Nat) (hl : LensAt w a ns) (hn : ns.length ≤ 4096) (hs : ∀ x ∈ ns, x ≤ 2048) :
    Calls Tryz.prog 112 #[v, .slice a ns.length cap] w fun e w' => e = .returned (.int .i64 0) ∧ Below w.heap.size w w' := by
  have hgo := goes_any w v r c _ hS.g (by rw [List.length_map, mrows_length]; omega) (fun i => by
    by_cases hi : i < r
    · have e : ((mrows r c f).map fun es => es.map cI).getD i [] = ((mrows r c f).getD i []).map cI := by
        simp only [List.getD_eq_getElem?_getD, List.getElem?_map, List.getElem?_eq_getElem (show i < (mrows r c f).length by rw [mrows_length]; exact hi)]; rfl
      rw [e, List.length_map]
      exact Nat.le_trans (mrows_row r c f i) (by omega)
    · rw [List.getD_eq_getElem?_getD, List.getElem?_eq_none (by rw [List.length_map, mrows_length]; omega)]; exact Nat.zero_le _) a cap ns hl hn
  have hg0 : goesS r c ((mrows r c f).map fun es => es.map cI) ns = 0 := by
    unfold goesS
    rw [checkS_valid hr hc, if_neg (by decide), if_pos]
    rw [List.all_eq_true]; intro x hx; exact decide_eq_true (hs x hx)
  rw [hg0] at hgo
  exact hgo
set_option maxRecDepth 100000 in
set_option maxHeartbeats 2000000 in
theorem sapp_any {j l : Nat} (w : World) (x y : Value) (r c m : Nat) (qs ps : List Rat) (hx : SpM w x r c (mvals c qs)) (hy : VecAt w y ps) (hl : ps.length = m) (hr : r ≤ 2048) (hc : c ≤ 2048) (hm : m ≤ 2048) (hq : ∀ i, SzK j (qs.getD i 0)) (hp : ∀ i, SzK l (ps.getD i 0)) (hcap : r * c * (j + l + 1) + 1 < 17592186044416) :
    Calls Tryz.prog 52 #[x, y] w fun e w' => (∃ d e', e = .returned (.tuple #[d, .int .i64 e']) ∧ VRes (!decide (m = c)) (mappL r c qs ps) w' d e') ∧ Below w.heap.size w w' := by
  by_cases hmc : m = c
  · have h1 := apply_ok (j := j) (l := l) w x y r c (mvals c qs) ps hx hy hr hc (hl.trans hmc) (fun i k => hq _) hp hcap
    refine h1.mono ?_
    rintro e w' ⟨g, rfl, hg, hv, hb⟩
    rw [app_eq] at hv
    exact ⟨⟨_, _, rfl, .inr ⟨by simp [hmc], rfl, hv.at r (by simp [mappL]) r⟩⟩, hb⟩
  · have hgo := fun W (hb : Below w.heap.size w W) a cap (h : LensAt W a [m]) => goes_ok (hx.call hb) hr hc a cap [m] h (by simp) (fun z hz => by rw [List.mem_singleton.1 hz]; exact hm)
    simp only [List.length_singleton] at hgo
    obtain ⟨a, cap, rfl⟩ := hx.shape
    obtain ⟨va, vc, rfl⟩ := hy.shape
    rw [hl]
    have e1 : ((m : Int) != c) = true := by
      have : ¬ (m : Int) = c := by omega
      simpa using this
    have HB : Hid ((!decide (m = c)) = true) := Lib.hid (by simp [hmc])
    obtain ⟨X, hX⟩ : ∃ X, X = w.heap.size := ⟨_, rfl⟩
    have HX := Lib.hid hX
    clear hx hy hl hq hp hcap hmc
    go_enter Tryz.func52, Tryz.ntmps52
    go_wp2_with fail
    have bx := ((Bx.new_at w #[.int .i64 r, .int .i64 c, .slice a r cap] 63 hX).alloc (.cells #[.slice va m vc] 97)).alloc (.cells #[.slice va m vc] 97)
    have bp := (Bx.new_at (w.alloc (.cells #[.int .i64 r, .int .i64 c, .slice a r cap] 63)) #[.slice va m vc] 97 (n := X + 1) (by rw [World.size_alloc, hX])).alloc (.cells #[.slice va m vc] 97)
    have bl := Bx.new_at ((w.alloc (.cells #[.int .i64 r, .int .i64 c, .slice a r cap] 63)).alloc (.cells #[.slice va m vc] 97)) #[.slice va m vc] 97 (n := X + 1 + 1) (by rw [World.size_alloc, World.size_alloc, hX])
    have hin : In X w (((w.alloc (.cells #[.int .i64 r, .int .i64 c, .slice a r cap] 63)).alloc (.cells #[.slice va m vc] 97)).alloc (.cells #[.slice va m vc] 97)) := by rw [hX]; exact (((In.self w).alloc _).alloc _).alloc _
    rw [← hX]
    generalize ((w.alloc (.cells #[.int .i64 r, .int .i64 c, .slice a r cap] 63)).alloc (.cells #[.slice va m vc] 97)).alloc (.cells #[.slice va m vc] 97) = W1 at *
    ((with_reducible refine (hgo _ ?_ _ _ ?_).mono ?_))
    · rw [← hX]; exact hin.bel
    · intro i hi
      have h0 : i = 0 := by simpa using hi
      subst h0
      exact ⟨X + 1 + 1, 0, _, _, rfl, bl.lt, bl.c0⟩
    rintro e w2 ⟨rfl, hb2⟩
    have bx2 := bx.call hb2
    have bp2 := bp.call hb2
    have hin2 := hin.call hb2
    have x0 := bx2.c0
    have x1 := bx2.c1
    have p0 := bp2.c0
    have hbx := bx2.lt
    have hbp := bp2.lt
    clear hb2 bx bp bl hin hgo hX bx2 bp2
    go_wp2_with fail
    go_ret2
    exact ⟨⟨_, _, rfl, .inl ⟨HB.out, rfl, rfl⟩⟩, by rw [← HX.out]; exact hin2.bel⟩
set_option maxRecDepth 100000 in
set_option maxHeartbeats 4000000 in
theorem sform_any {j l : Nat} (w : World) (x y z : Value) (r c m m' : Nat) (qs ps ts : List Rat) (hx : SpM w x r c (mvals c qs)) (hy : VecAt w y ps) (hz : VecAt w z ts) (hl : ps.length = m) (hl' : ts.length = m') (hr : r ≤ 2048) (hc : c ≤ 2048) (hm : m ≤ 2048) (hm' : m' ≤ 2048) (hq : ∀ i, SzK j (qs.getD i 0)) (hp : ∀ i, SzK l (ps.getD i 0)) (ht : ∀ i, SzK l (ts.getD i 0)) (hcap : 1 + r * (l + (1 + c * (j + l + 1)) + 1) < 17592186044416) (hcap2 : r * c * (j + l + 1) + 1 < 17592186044416) :
    Calls Tryz.prog 54 #[x, y, z] w fun e w' => (∃ v e', e = .returned (.tuple #[v, .int .i64 e']) ∧ FRes (!(decide (m = r) && decide (m' = c))) (dotV ps (mappL r c qs ts) r) v e') ∧ Below w.heap.size w w' := by
  have hgo := fun W (hb : Below w.heap.size w W) a cap (h : LensAt W a [m, m']) => goes_ok (hx.call hb) hr hc a cap [m, m'] h (by simp) (fun z hz => by
    rcases List.mem_cons.1 hz with rfl | hz
    · exact hm
    · rw [List.mem_singleton.1 hz]; exact hm')
  simp only [List.length_cons, List.length_nil, Nat.zero_add, Nat.reduceAdd] at hgo
  have h3 := fun W (hb : Below w.heap.size w W) => sapp_any (j := j) (l := l) W x z r c m' qs ts (hx.call hb) (hz.call hb) hl' hr hc hm' hq ht hcap2
  have h4 := fun W u (hu : VecAt W u (mappL r c qs ts)) (hmr : m = r) (hb : Below w.heap.size w W) => vdot_ok (j := l) (l := 1 + c * (j + l + 1)) W y u ps (mappL r c qs ts) r (hy.call hb) hu (hl.trans hmr) (by simp [mappL]) hr hp (mappL_szk hq ht) hcap
  obtain ⟨a, k, rfl⟩ := hx.shape
  obtain ⟨a', k', rfl⟩ := hy.shape
  obtain ⟨a2, k2, rfl⟩ := hz.shape
  rw [hl] at h4 ⊢
  rw [hl'] at h3 ⊢
  obtain ⟨X, hX⟩ : ∃ X, X = w.heap.size := ⟨_, rfl⟩
  have HX := Lib.hid hX
  obtain ⟨zz, hzz⟩ : ∃ z, z = dotV ps (mappL r c qs ts) r := ⟨_, rfl⟩
  rw [← hzz] at h4
  rw [← hzz]
  have H3 := Lib.hid h3
  have H4 := Lib.hid h4
  clear hzz hx hy hz hl hl' hq hp ht hcap hcap2 h3 h4
  go_enter Tryz.func54, Tryz.ntmps54
  go_wp2_with fail
  ((with_reducible refine (hgo _ ?_ _ _ ?_).mono ?_))
  · exact (((In.self w).alloc _).alloc _).alloc _ |>.bel
  · have bl := Bx.new_at ((w.alloc (.cells #[.int .i64 r, .int .i64 c, .slice a r k] 63)).alloc (.cells #[.int .u64 0, .string ⟨#[]⟩, .bool false, .int .u64 0, .string ⟨#[]⟩] 56)) #[.slice a' m k', .slice a2 m' k2] 97 (n := X + 1 + 1) (by rw [World.size_alloc, World.size_alloc, hX])
    rw [← hX]
    intro i hi
    match i, hi with
    | 0, _ => exact ⟨X + 1 + 1, 0, _, _, rfl, bl.lt, bl.c0⟩
    | 1, _ => exact ⟨X + 1 + 1, 0, _, _, rfl, bl.lt, bl.c1⟩
  rintro e w3 ⟨rfl, hb⟩
  have hin := ((((In.self w).alloc (.cells #[.int .i64 r, .int .i64 c, .slice a r k] 63)).alloc (.cells #[.int .u64 0, .string ⟨#[]⟩, .bool false, .int .u64 0, .string ⟨#[]⟩] 56)).alloc (.cells #[.slice a' m k', .slice a2 m' k2] 97)).call hb
  have bx := (((Bx.new_at w #[.int .i64 r, .int .i64 c, .slice a r k] 63 hX).alloc (.cells #[.int .u64 0, .string ⟨#[]⟩, .bool false, .int .u64 0, .string ⟨#[]⟩] 56)).alloc (.cells #[.slice a' m k', .slice a2 m' k2] 97)).call hb
  have bq := ((Bx.new_at (w.alloc (.cells #[.int .i64 r, .int .i64 c, .slice a r k] 63)) #[.int .u64 0, .string ⟨#[]⟩, .bool false, .int .u64 0, .string ⟨#[]⟩] 56 (n := X + 1) (by rw [World.size_alloc, hX])).alloc (.cells #[.slice a' m k', .slice a2 m' k2] 97)).call hb
  rw [← hX]
  clear hX hb hgo
  have x0 := bx.c0
  have x1 := bx.c1
  have x2 := bx.c2
  have xl := bx.lt
  by_cases hmr : m = r
  · have e1 : ((m : Int) != r) = false := by rw [hmr]; simp
    have HMR := Lib.hid hmr
    clear hmr
    by_cases hmc : m' = c
    · have e2 : ((m' : Int) != c) = false := by rw [hmc]; simp
      have HMC := Lib.hid hmc
      clear hmc
      have h3 := H3.out w3 hin.bel
      go_wp2_with fail
      ((with_reducible refine h3.mono ?_))
      rintro e w4 ⟨⟨d, e', rfl, hd⟩, hb⟩
      replace hin := hin.call hb
      replace bq := bq.call hb
      clear hb h3 x0 x1 x2 xl bx
      rcases hd with ⟨hd, _, _⟩ | ⟨_, rfl, hd⟩
      · rw [HMC.out] at hd; simp at hd
      · have h4 := H4.out w4 d hd HMR.out hin.bel
        obtain ⟨da, dn, dk, rfl⟩ : ∃ a n k, d = .slice a n k := by obtain ⟨a, k, h⟩ := hd.shape; exact ⟨_, _, _, h⟩
        clear hd
        go_wp2_with fail
        ((with_reducible refine h4.mono ?_))
        rintro e w5 ⟨rfl, hb⟩
        replace hin := hin.call hb
        replace bq := bq.call hb
        clear hb h4
        ((obtain ⟨A1, A2, A3, A4, A5, hA⟩ : ∃ A1 A2 A3 A4 A5, fracV zz = .agg #[.int .u64 A1, .string A2, .bool A3, .int .u64 A4, .string A5] := ⟨_, _, _, _, _, rfl⟩);
              ((try rw [hA]));
              (have HA := Lib.hid hA);
              (clear hA);
              (have q0 := bq.c0);
              (have q1 := bq.c1);
              (have q2 := bq.c2);
              (have q3 := bq.c3);
              (have q4 := bq.c4);
              (have f0 := bq.frozen 0);
              (have f1 := bq.frozen 1);
              (have f2 := bq.frozen 2);
              (have f3 := bq.frozen 3);
              (have f4 := bq.frozen 4);
              (have ql := bq.lt);
              (have K1 := Lib.hid ((((((bq.set 0 (.int .u64 A1)).set 1 (.string A2)).set 2 (.bool A3)).set 3 (.int .u64 A4)).set 4 (.string A5))));
              (have K2 := Lib.hid ((((((hin.setCell (p := ⟨(X + 1), 0, none⟩) (by first | (simp; done) | (have := HX.out; simp; omega)) (.int .u64 A1)).setCell (p := ⟨(X + 1), 1, none⟩) (by first | (simp; done) | (have := HX.out; simp; omega)) (.string A2)).setCell (p := ⟨(X + 1), 2, none⟩) (by first | (simp; done) | (have := HX.out; simp; omega)) (.bool A3)).setCell (p := ⟨(X + 1), 3, none⟩) (by first | (simp; done) | (have := HX.out; simp; omega)) (.int .u64 A4)).setCell (p := ⟨(X + 1), 4, none⟩) (by first | (simp; done) | (have := HX.out; simp; omega)) (.string A5))));
              (clear bq hin);
              (go_wp2_with fail);
              (have k1 := K1.out);
              (have k2 := K2.out);
              (clear q0 q1 q2 q3 q4 f0 f1 f2 f3 f4 ql K1 K2);
              (generalize (((((w5.setCell ⟨(X + 1), 0, none⟩ (.int .u64 A1)).setCell ⟨(X + 1), 1, none⟩ (.string A2)).setCell ⟨(X + 1), 2, none⟩ (.bool A3)).setCell ⟨(X + 1), 3, none⟩ (.int .u64 A4)).setCell ⟨(X + 1), 4, none⟩ (.string A5)) = W5 at *);
              (have e0 : W5.cell? ⟨(X + 1), 0, none⟩ = some (.int .u64 A1) := k1.cell 0);
              (have e1 : W5.cell? ⟨(X + 1), 1, none⟩ = some (.string A2) := k1.cell 1);
              (have e2 : W5.cell? ⟨(X + 1), 2, none⟩ = some (.bool A3) := k1.cell 2);
              (have e3 : W5.cell? ⟨(X + 1), 3, none⟩ = some (.int .u64 A4) := k1.cell 3);
              (have e4 : W5.cell? ⟨(X + 1), 4, none⟩ = some (.string A5) := k1.cell 4);
              (have hz := k2.bel);
              (have hA := HA.out);
              (refine bodyPost_ret (v := .tuple #[.agg #[.int .u64 A1, .string A2, .bool A3, .int .u64 A4, .string A5], .int .i64 0]) ?_ rfl ⟨⟨_, _, rfl, .inr ⟨by rw [HMR.out, HMC.out]; simp, rfl, hA.symm⟩⟩, hz⟩);
              (simp [results, Tryz.results54, go_sem, e0, e1, e2, e3, e4]))
    · have e2 : ((m' : Int) != c) = true := by
        have : ¬ (m' : Int) = c := by omega
        simpa using this
      have HB : Hid ((!(decide (m = r) && decide (m' = c))) = true) := Lib.hid (by simp [hmc])
      clear hmc bx
      ((have q0 := bq.c0);
              (have q1 := bq.c1);
              (have q2 := bq.c2);
              (have q3 := bq.c3);
              (have q4 := bq.c4);
              (have f0 := bq.frozen 0);
              (have f1 := bq.frozen 1);
              (have f2 := bq.frozen 2);
              (have f3 := bq.frozen 3);
              (have f4 := bq.frozen 4);
              (have ql := bq.lt);
              (have K1 := Lib.hid ((((((bq.set 0 (.int .u64 0)).set 1 (.string ⟨#[]⟩)).set 2 (.bool false)).set 3 (.int .u64 0)).set 4 (.string ⟨#[]⟩))));
              (have K2 := Lib.hid ((((((hin.setCell (p := ⟨(X + 1), 0, none⟩) (by have := HX.out; simp; omega) (.int .u64 0)).setCell (p := ⟨(X + 1), 1, none⟩) (by have := HX.out; simp; omega) (.string ⟨#[]⟩)).setCell (p := ⟨(X + 1), 2, none⟩) (by have := HX.out; simp; omega) (.bool false)).setCell (p := ⟨(X + 1), 3, none⟩) (by have := HX.out; simp; omega) (.int .u64 0)).setCell (p := ⟨(X + 1), 4, none⟩) (by have := HX.out; simp; omega) (.string ⟨#[]⟩))));
              (clear bq hin);
              (go_wp2_with fail);
              (have k1 := K1.out);
              (have k2 := K2.out);
              (clear q0 q1 q2 q3 q4 f0 f1 f2 f3 f4 ql K1 K2);
              (generalize (((((w3.setCell ⟨(X + 1), 0, none⟩ (.int .u64 0)).setCell ⟨(X + 1), 1, none⟩ (.string ⟨#[]⟩)).setCell ⟨(X + 1), 2, none⟩ (.bool false)).setCell ⟨(X + 1), 3, none⟩ (.int .u64 0)).setCell ⟨(X + 1), 4, none⟩ (.string ⟨#[]⟩)) = W5 at *);
              (have e0 : W5.cell? ⟨(X + 1), 0, none⟩ = some (.int .u64 0) := k1.cell 0);
              (have e1 : W5.cell? ⟨(X + 1), 1, none⟩ = some (.string ⟨#[]⟩) := k1.cell 1);
              (have e2 : W5.cell? ⟨(X + 1), 2, none⟩ = some (.bool false) := k1.cell 2);
              (have e3 : W5.cell? ⟨(X + 1), 3, none⟩ = some (.int .u64 0) := k1.cell 3);
              (have e4 : W5.cell? ⟨(X + 1), 4, none⟩ = some (.string ⟨#[]⟩) := k1.cell 4);
              (have hz := k2.bel);
              (refine bodyPost_ret (v := .tuple #[.agg #[.int .u64 0, .string ⟨#[]⟩, .bool false, .int .u64 0, .string ⟨#[]⟩], .int .i64 1]) ?_ rfl ⟨⟨_, _, rfl, .inl ⟨HB.out, rfl, rfl⟩⟩, hz⟩);
              (simp [results, Tryz.results54, go_sem, e0, e1, e2, e3, e4]))
  · have e1 : ((m : Int) != r) = true := by
      have : ¬ (m : Int) = r := by omega
      simpa using this
    have HB : Hid ((!(decide (m = r) && decide (m' = c))) = true) := Lib.hid (by simp [hmr])
    clear hmr bx
    ((have q0 := bq.c0);
              (have q1 := bq.c1);
              (have q2 := bq.c2);
              (have q3 := bq.c3);
              (have q4 := bq.c4);
              (have f0 := bq.frozen 0);
              (have f1 := bq.frozen 1);
              (have f2 := bq.frozen 2);
              (have f3 := bq.frozen 3);
              (have f4 := bq.frozen 4);
              (have ql := bq.lt);
              (have K1 := Lib.hid ((((((bq.set 0 (.int .u64 0)).set 1 (.string ⟨#[]⟩)).set 2 (.bool false)).set 3 (.int .u64 0)).set 4 (.string ⟨#[]⟩))));
              (have K2 := Lib.hid ((((((hin.setCell (p := ⟨(X + 1), 0, none⟩) (by have := HX.out; simp; omega) (.int .u64 0)).setCell (p := ⟨(X + 1), 1, none⟩) (by have := HX.out; simp; omega) (.string ⟨#[]⟩)).setCell (p := ⟨(X + 1), 2, none⟩) (by have := HX.out; simp; omega) (.bool false)).setCell (p := ⟨(X + 1), 3, none⟩) (by have := HX.out; simp; omega) (.int .u64 0)).setCell (p := ⟨(X + 1), 4, none⟩) (by have := HX.out; simp; omega) (.string ⟨#[]⟩))));
              (clear bq hin);
              (go_wp2_with fail);
              (have k1 := K1.out);
              (have k2 := K2.out);
              (clear q0 q1 q2 q3 q4 f0 f1 f2 f3 f4 ql K1 K2);
              (generalize (((((w3.setCell ⟨(X + 1), 0, none⟩ (.int .u64 0)).setCell ⟨(X + 1), 1, none⟩ (.string ⟨#[]⟩)).setCell ⟨(X + 1), 2, none⟩ (.bool false)).setCell ⟨(X + 1), 3, none⟩ (.int .u64 0)).setCell ⟨(X + 1), 4, none⟩ (.string ⟨#[]⟩)) = W5 at *);
              (have e0 : W5.cell? ⟨(X + 1), 0, none⟩ = some (.int .u64 0) := k1.cell 0);
              (have e1 : W5.cell? ⟨(X + 1), 1, none⟩ = some (.string ⟨#[]⟩) := k1.cell 1);
              (have e2 : W5.cell? ⟨(X + 1), 2, none⟩ = some (.bool false) := k1.cell 2);
              (have e3 : W5.cell? ⟨(X + 1), 3, none⟩ = some (.int .u64 0) := k1.cell 3);
              (have e4 : W5.cell? ⟨(X + 1), 4, none⟩ = some (.string ⟨#[]⟩) := k1.cell 4);
              (have hz := k2.bel);
              (refine bodyPost_ret (v := .tuple #[.agg #[.int .u64 0, .string ⟨#[]⟩, .bool false, .int .u64 0, .string ⟨#[]⟩], .int .i64 1]) ?_ rfl ⟨⟨_, _, rfl, .inl ⟨HB.out, rfl, rfl⟩⟩, hz⟩);
              (simp [results, Tryz.results54, go_sem, e0, e1, e2, e3, e4]))
end Gus
end
section
/- gussetlaw16.Vec. -/
namespace Gus
open Go Go.RowKit Go.Proofs
theorem mEl_beyond (qs : List (Int × Int)) {i : Nat} (h : qs.length ≤ i) : mEl qs i = 0 := by
  unfold mEl
  rw [List.getD_eq_getElem?_getD, List.getElem?_eq_none h]
  show ((0 : Int) : Rat) / _ = 0
  rw [Rat.div_def]
  exact Rat.zero_mul _
theorem pv_stop (qs : List (Int × Int)) (n k : Nat) (h : qs.length ≤ k) : pv (mEl qs) n k = mList qs n := by
  unfold pv mList
  refine List.map_congr_left fun i _ => ?_
  by_cases hi : i < k
  · rw [if_pos hi]
  · rw [if_neg hi, mEl_beyond qs (by omega)]
set_option maxRecDepth 100000 in
set_option maxHeartbeats 4000000 in
theorem lvec_any (w : World) (a : Option Addr) (cap n : Nat) (qs : List (Int × Int)) (hq : QAt w a qs) (hok : QOk qs) (hn : n ≤ 2048) (_hl : qs.length ≤ 1000) :
    Calls Tryz.prog 43 #[.slice a qs.length cap, .int .i64 n] w fun e w' => (∃ d, e = .returned d ∧ VecAt w' d (mList qs n)) ∧ Below w.heap.size w w' := by
  have hmk := mk_vec n (by omega)
  obtain ⟨fc, hfc⟩ : ∃ fc, fc = fcl (List.replicate n 0) := ⟨_, rfl⟩
  rw [← hfc] at hmk
  have HF := Lib.hid hfc
  obtain ⟨L, hL⟩ : ∃ L, L = qs.length := ⟨_, rfl⟩
  rw [← hL]
  have HL := Lib.hid hL
  obtain ⟨g, hg⟩ : ∃ g, g = w.heap.size := ⟨_, rfl⟩
  have HG := Lib.hid hg
  have HQ := Lib.hid hq
  have bv : VBx (w.alloc (.cells fc.toArray 56)) g (pv (mEl qs) n 0) := by
    have := Bx.new_at w fc.toArray 56 hg
    show Bx _ g 56 (fcl _)
    rw [pv_zero, ← HF.out]; exact this
  have hin := (In.self w).alloc (.cells fc.toArray 56)
  clear hL hfc hq
  go_enter Tryz.func43, Tryz.ntmps43
  go_upto_region 2 with fail
  rw [← hg]
  clear hg hmk
  generalize w.alloc (.cells fc.toArray 56) = W1 at *
  go_wp2_with fail
  go_loopw [6] (fun v6 wr => ∃ k : Nat, k ≤ n ∧ v6 = .int .i64 k ∧ In w.heap.size w wr ∧ VBx wr g (pv (mEl qs) n k)) (fun v6 _ => n - (RowKit.intOf v6).toNat)
  case atStart => exact ⟨0, Nat.zero_le _, rfl, hin, bv⟩
  case round =>
    clear hin bv
    obtain ⟨k, hk, rfl, hin, bv⟩ := hrel
    by_cases hkn : k < n
    · have hkI : (k : Int) < n := by omega
      by_cases hkl : k < L
      · have hkJ : (k : Int) < L := by omega
        have hk0 : (0 : Int) ≤ k := by omega
        obtain ⟨N, hN⟩ : ∃ N, N = (qs.getD k (0, 0)).1 := ⟨_, rfl⟩
        obtain ⟨D, hD⟩ : ∃ D, D = (qs.getD k (0, 0)).2 := ⟨_, rfl⟩
        have hb4 : -9223372036854775808 ≤ N ∧ N < 9223372036854775808 ∧ 0 ≤ D ∧ D < 4294967296 := by
          rw [hN, hD, List.getD_eq_getElem?_getD, List.getElem?_eq_getElem (by rw [← HL.out]; exact hkl)]
          exact hok _ (List.getElem_mem _)
        have hmE : mEl qs k = qOf N D := by rw [hN, hD]; rfl
        have hcq := qOf_any N D hb4.1 hb4.2.1 hb4.2.2.1 hb4.2.2.2
        rw [← hmE] at hcq
        obtain ⟨q, hqq⟩ : ∃ q, q = mEl qs k := ⟨_, rfl⟩
        rw [← hqq] at hcq
        have HE := Lib.hid hqq
        obtain ⟨b, off, rfl, hb, hc0, hc1⟩ := HQ.out k (by rw [← HL.out]; exact hkl)
        rw [← hN, Nat.mul_comm 2 k] at hc0
        rw [← hD, Nat.mul_comm 2 k] at hc1
        rw [← hin.cell b _ hb] at hc0 hc1
        have hbw : b < wr.heap.size := by have := hin.siz; omega
        clear hN hD hb4 hmE hqq
        go_wp2_with fail
        ((with_reducible refine (hcq _).mono ?_))
        rintro e w3 ⟨rfl, hb⟩
        have hin3 := hin.call hb
        have bv3 := bv.call hb
        have hlt : k < (pv (mEl qs) n k).length := by rw [pv_length]; exact hkn
        obtain ⟨_, _, _, _, _, _, c0, c1, c2, c3, c4, f0, f1, f2, f3, f4⟩ := VBx.cells bv3 hlt
        have hgl := bv3.lt
        have hs := VBx.set bv3 k q hlt
        rw [show (pv (mEl qs) n k).set k q = pv (mEl qs) n (k + 1) by rw [HE.out]; exact pv_set _ _ _] at hs
        have H1 := Lib.hid hs
        have H2 := Lib.hid (hin3.put5 (g := g) (by have := HG.out; omega) k q)
        have hkw : IntKind.i64.wrap ((k : Int) + 1) = ((k + 1 : Nat) : Int) := IntWalk.i64_in _ (by omega)
        clear hs hin3 bv3 hin bv hb hcq hc0 hc1 hbw
        go_wp2_with fail
        exact ⟨⟨k + 1, by omega, by go_num, H2.out, H1.out⟩, by simp [RowKit.intOf]; omega⟩
      · have hkJ : ¬ (k : Int) < L := by omega
        rw [pv_stop qs n k (by rw [← HL.out]; omega)] at bv
        have hv : VecAt wr (.slice (some ⟨g, 0, none⟩) n n) (mList qs n) := VBx.at bv n (mList_length qs n).symm n
        have H1 := Lib.hid hv
        have H2 := Lib.hid hin
        clear bv hin hv
        go_wp2_with fail
        exact bodyPost_ret (v := .slice (some ⟨g, 0, none⟩) n n) (by simp [results, Tryz.results43, go_sem]) rfl ⟨⟨_, rfl, H1.out⟩, H2.out.bel⟩
    · obtain rfl : k = n := by omega
      have hkI : ¬ (k : Int) < k := by omega
      rw [pv_full] at bv
      have hv : VecAt wr (.slice (some ⟨g, 0, none⟩) k k) (mList qs k) := VBx.at bv k (mList_length qs k).symm k
      have H1 := Lib.hid hv
      have H2 := Lib.hid hin
      clear bv hin hv
      go_wp2_with fail
      exact bodyPost_ret (v := .slice (some ⟨g, 0, none⟩) k k) (by simp [results, Tryz.results43, go_sem]) rfl ⟨⟨_, rfl, H1.out⟩, H2.out.bel⟩
end Gus
end
section
/- Pieces for gussetlaw16.SparsesDense. -/
namespace Gus
open Go Go.RowKit Go.Proofs
/-- a store into a sparse matrix's own variable leaves the rows of every matrix -/
theorem SpN.apart {w : World} {lo S : Nat} {v u : Value} {r c : Nat} {f : Nat → Nat → Rat} {cs : List Value} (h : SpN w lo v r c f) (hS : Bx w S 63 cs) (j : Nat) : SpN (w.setCell ⟨S, j, none⟩ u) lo v r c f := by
  obtain ⟨R, vs, rfl, h1, h2, h3⟩ := h
  have hRS : R ≠ S := fun e => by
    subst e
    have h4 : w.heap[R]? = some (.cells vs.toArray 107 (0, 0)) := h2
    have h5 : w.heap[R]? = some (.cells cs.toArray 63 (0, 0)) := hS
    rw [h4] at h5
    injection h5 with h6
    injection h6 with _ h7
    exact absurd h7 (by decide)
  refine ⟨R, vs, rfl, h1, h2.other (a := ⟨S, j, none⟩) (by simp; omega) u, h3.of_block fun i k hi hk => heap_setCell_other w ⟨S, j, none⟩ k u ?_⟩
  show k ≠ S
  rintro rfl
  rcases h3.row i hi with ⟨h4, _⟩ | ⟨g, cap, cur, h4, _, h5, _⟩
  · rw [h4] at hk; simp [Value.ownBlock] at hk
  · rw [h4] at hk
    simp [Value.ownBlock] at hk
    subst hk
    have h6 : w.heap[g]? = some (.cells cs.toArray 63 (0, 0)) := hS
    rw [h6] at h5
    injection h5 with h7
    injection h7 with _ h8
    exact absurd h8 (by decide)
theorem SpN.put3 {w : World} {v x y z : Value} {r c lo S : Nat} {f : Nat → Nat → Rat} {cs : List Value} (h : SpN w lo v r c f) (hS : Bx w S 63 cs) :
    SpN (((w.setCell ⟨S, 0, none⟩ x).setCell ⟨S, 1, none⟩ y).setCell ⟨S, 2, none⟩ z) lo v r c f :=
  ((h.apart hS 0).apart (hS.set 0 x) 1).apart ((hS.set 0 x).set 1 y) 2
theorem pres_ok {w : World} {v : Value} {r c : Nat} {f : Nat → Nat → Rat} (h : SpM w v r c f) : PRes false r c f w v 0 := by
  obtain ⟨a, k, rfl⟩ := h.shape
  exact ⟨⟨_, _, _, _, _, rfl⟩, .inr ⟨rfl, rfl, h⟩⟩
theorem eq_self (w : World) (s m : Value) (r c : Nat) (qs : List Rat) (hS : SpM w s r c (mvals c qs)) (hM : MatAt w m r c qs) (hl : qs.length = r * c) (hr : r ≤ 64) (hc : c ≤ 64) :
    Calls Tryz.prog 40 #[s, .int .i64 0, m, .int .i64 0] w fun e w' => e = .returned (.bool true) ∧ Below w.heap.size w w' :=
  eq_ok w s m r c _ hS (by rw [dense_mvals hl]; exact hM) hr hc
theorem sadd_at {j l : Nat} (w : World) (u v : Value) (r c r' c' : Nat) (xs ys : List Rat) (h1 : SpM w u r c (mvals c xs)) (h2 : SpM w v r' c' (mvals c' ys)) (hr : r ≤ 2048) (hc : c ≤ 2048) (hr' : r' ≤ 2048) (hc' : c' ≤ 2048) (hz : ∀ i, SzK j (xs.getD i 0)) (hl : ∀ i, SzK l (ys.getD i 0)) (hcap : r * c * (j + 1) + r' * c' * (l + 1) + 1 < 17592186044416) :
    Calls Tryz.prog 44 #[u, v] w fun e w' => (∃ d e', e = .returned (.tuple #[d, .int .i64 e']) ∧ PRes (sizesDiffer r c r' c') r c (fun i k => mvals c xs i k + mvals c ys i k) w' d e') ∧ Below w.heap.size w w' :=
  (sadd_any (j := j) (l := l) w u v r c r' c' _ _ h1 h2 hr hc hr' hc' (fun _ _ => hz _) (fun _ _ => hl _) hcap).mono fun _ _ ⟨⟨d, e', h3, h4⟩, hb⟩ => ⟨⟨d, e', h3, by
    rcases h4.2 with h5 | h5
    · exact ⟨h4.1, .inl h5⟩
    · have h6 := h5.1
      unfold sizesDiffer at h6
      simp at h6
      obtain ⟨rfl, rfl⟩ := h6
      exact h4⟩, hb⟩
/-- a statement's matrix, with no less room than elements -/
def MatC (r c : Nat) (qs : List Rat) (v : Value) (w : World) : Prop := MatAt w v r c qs ∧ CapOk v
theorem stable_matc (r c : Nat) (qs : List Rat) : Stable (MatC r c qs) := fun _ _ _ h hs => ⟨h.1.call hs, h.2⟩
def SpR (lo r c : Nat) (f : Nat → Nat → Rat) (v : Value) (w : World) : Prop := SpN w lo v r c f
theorem stable_spr (lo r c : Nat) (f : Nat → Nat → Rat) : Stable (SpR lo r c f) := fun _ _ _ h hs => SpN.call h hs
theorem lof_at {j : Nat} (lo : Nat) (w : World) (v : Value) (r c : Nat) (qs : List Rat) (hM : MatAt w v r c qs) (hlo : lo ≤ w.heap.size) (hr : r ≤ 2048) (hc : c ≤ 2048) (hz : ∀ i, SzK j (qs.getD i 0)) (hcap : r * c * (j + 1) + 1 < 17592186044416) :
    Calls Tryz.prog 29 #[v] w fun e w' => (∃ s, e = .returned s ∧ SpR lo r c (mvals c qs) s w') ∧ Below w.heap.size w w' :=
  (lof_any w v r c qs hM hr hc hz hcap).mono fun _ _ ⟨⟨s, h1, h2⟩, hb⟩ => ⟨⟨s, h1, SpN.mono h2 hlo⟩, hb⟩
/-- what sparses.Scale gives -/
def ScQ (lo r c : Nat) (f : Nat → Nat → Rat) (d : Value) (e : Int) (w : World) : Prop := e = 0 ∧ SpN w lo d r c f
theorem stable_scq (lo r c : Nat) (f : Nat → Nat → Rat) : Stable (TupR (ScQ lo r c f)) := stable_tup fun _ _ _ _ h hs => ⟨h.1, h.2.call hs⟩
theorem sscale_at {j l : Nat} (lo : Nat) (w : World) (cc : Rat) (v : Value) (r c : Nat) (f : Nat → Nat → Rat) (hS : SpM w v r c f) (hlo : lo ≤ w.heap.size) (hr : r ≤ 2048) (hc : c ≤ 2048) (hl : SzK l cc) (hz : ∀ i k, SzK j (f i k)) (hcap : r * c * (l + j + 1) + 1 < 17592186044416) :
    Calls Tryz.prog 50 #[fracV cc, v] w fun e w' => (∃ s, e = .returned s ∧ TupR (ScQ lo r c fun i k => cc * f i k) s w') ∧ Below w.heap.size w w' :=
  (sscale_any w cc v r c f hS hr hc hl hz hcap).mono fun _ _ ⟨⟨s, h1, h2⟩, hb⟩ => by
    obtain ⟨a, k, h3⟩ := h2.m.shape
    exact ⟨⟨_, h1, ⟨_, _, _, _, _, _, by rw [h3]⟩, _, _, rfl, rfl, SpN.mono h2 hlo⟩, hb⟩
def DrQ (r c : Nat) (f : Nat → Nat → Rat) (d : Value) (e : Int) (w : World) : Prop := DRes false r c f w d e
theorem stable_drq (r c : Nat) (f : Nat → Nat → Rat) : Stable (TupR (DrQ r c f)) := stable_tup fun _ _ _ _ h hs => DRes.call h hs
theorem mscale_at {j l : Nat} (w : World) (s : Rat) (x : Value) (r c : Nat) (qs : List Rat) (hx : MatAt w x r c qs) (hr : r ≤ 2048) (hc : c ≤ 2048) (hs : SzK j s) (hq : ∀ i, SzK l (qs.getD i 0)) (hj : j + l < 17592186044416) :
    Calls Tryz.prog 51 #[fracV s, x] w fun e w' => (∃ y, e = .returned y ∧ TupR (DrQ r c fun i k => s * mvals c qs i k) y w') ∧ Below w.heap.size w w' :=
  (mscale_any w s x r c qs hx hr hc hs hq hj).mono fun _ _ ⟨⟨d, e', h1, h2⟩, hb⟩ => by
    obtain ⟨n, m, a, l, k, h3⟩ := h2.1
    exact ⟨⟨_, h1, ⟨_, _, _, _, _, _, by rw [h3]⟩, _, _, rfl, h2⟩, hb⟩
theorem vres_same {bad : Bool} {L : List Rat} {w : World} {v v' : Value} {e e' : Int} (h1 : VRes bad L w v e) (h2 : VRes bad L w v' e') : e' = e := by
  rcases h1 with ⟨h, rfl, _⟩ | ⟨h, rfl, _⟩ <;> rcases h2 with ⟨k, rfl, _⟩ | ⟨k, rfl, _⟩ <;> first | rfl | (rw [h] at k; cases k)
theorem vsame_res {bad : Bool} {L : List Rat} (w : World) {v v' : Value} {e e' : Int} (h1 : VRes bad L w v e) (h2 : VRes bad L w v' e') (hl : L.length ≤ 4096) :
    Calls Tryz.prog 56 #[v, v'] w fun e w' => e = .returned (.bool true) ∧ Below w.heap.size w w' := by
  rcases h1 with ⟨h, _, rfl⟩ | ⟨h, _, h1⟩ <;> rcases h2 with ⟨k, _, rfl⟩ | ⟨k, _, h2⟩
  · have := vsame_any w _ _ [] [] (VecAt.nil w none 0) (VecAt.nil w none 0) (by simp)
    rw [decide_eq_true rfl] at this
    exact this
  · rw [h] at k; cases k
  · rw [h] at k; cases k
  · have := vsame_any w _ _ L L h1 h2 hl
    rw [decide_eq_true rfl] at this
    exact this
theorem fres_same {bad : Bool} {z : Rat} {v v' : Value} {e e' : Int} (h1 : FRes bad z v e) (h2 : FRes bad z v' e') : v' = v ∧ e' = e := by
  rcases h1 with ⟨h, rfl, rfl⟩ | ⟨h, rfl, rfl⟩ <;> rcases h2 with ⟨k, rfl, rfl⟩ | ⟨k, rfl, rfl⟩ <;> first | exact ⟨rfl, rfl⟩ | (rw [h] at k; cases k)
theorem fres_shape {bad : Bool} {z : Rat} {v : Value} {e : Int} (h : FRes bad z v e) : ∃ A1 A2 A3 A4 A5, v = .agg #[.int .u64 A1, .string A2, .bool A3, .int .u64 A4, .string A5] := by
  rcases h with ⟨_, _, rfl⟩ | ⟨_, _, rfl⟩
  · exact ⟨_, _, _, _, _, rfl⟩
  · exact ⟨_, _, _, _, _, rfl⟩
theorem ssym_eq {j : Nat} (w : World) (v : Value) (r c : Nat) (qs : List Rat) (hS : SpM w v r c (mvals c qs)) (hl : qs.length = r * c) (hr : r ≤ 64) (hc : c ≤ 64) (hz : ∀ i, SzK j (qs.getD i 0)) (hcap : r * c * (j + 1) + 1 < 17592186044416) :
    Calls Tryz.prog 33 #[v] w fun e w' => e = .returned (.bool (sameD r c qs c r (dense c r fun k i => mvals c qs i k))) ∧ Below w.heap.size w w' := by
  have := symm_any (j := j) w v r c (mvals c qs) hS (by omega) (by omega) (fun i k => hz _) hcap
  rw [sym_eq r c qs hl] at this
  exact this
end Gus
end
