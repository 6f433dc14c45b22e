/- Proved: whatever the matrix, the indices and the position, gussetlaw16.SparsesParts returns true, and the arguments read as before. Conditions: the three listed tables hold what the program's text lays (the card ties them). -/
import Derived.Test.YtjiobckoldnonaaGreatDoorMtxQ
import Derived.Test.YtjiobckoldnonaaGreatDoorRows
import Derived.Test.YtjiobckoldnonaaGreatDoorTie
import Derived.Test.YtjiobckoldnonaaGreatDoorCards
import Derived.WalkKit
import Derived.ProofKit
import Derived.OpenShut
import Derived.SevenTiedAt
import Derived.Below
import Derived.ChangeSame
import Derived.LaidLaws
import Derived.Lib.LaidTab
import Derived.Deep.DeepHandedRow
import Derived.Deep.SlicePairs
import Derived.Carry
import Derived.ChangeSlices
section
/- mats: at, row, Make. -/
namespace Gus
open Go Go.RowKit Go.Proofs
set_option maxRecDepth 100000 in
set_option maxHeartbeats 2000000 in
theorem mel_any (w : World) (v : Value) (r c i k : Nat) (qs : List Rat) (hM : MatAt w v r c qs) (hi : i < r) (hk : k < c) (hr : r ≤ 2048) (hc : c ≤ 2048) :
    Calls Tryz.prog 98 #[v, .int .i64 i, .int .i64 k] w fun e w' => e = .returned (fracV (qs.getD (i * c + k) 0)) ∧ Below w.heap.size w w' := by
  obtain ⟨x, rfl, hl, hv⟩ := hM
  obtain ⟨t, ht⟩ : ∃ t, t = i * c + k := ⟨_, rfl⟩
  have htl : t < qs.length := by rw [hl, ht]; exact pos_lt hi hk
  obtain ⟨b, off, cap, A1, A2, A3, A4, A5, rfl, hb, _, hA, d0, d1, d2, d3, d4⟩ := hv.at htl
  have hn4 : r * c ≤ 4194304 := Nat.mul_le_mul hr hc
  rw [← ht, hA]
  obtain ⟨L, hL⟩ : ∃ L, L = qs.length := ⟨_, rfl⟩
  obtain ⟨d, hd⟩ : ∃ d, d = i * c := ⟨_, rfl⟩
  have hw1 : IntKind.i64.wrap ((i : Int) * c) = (d : Int) := by rw [hd, ← Int.natCast_mul]; exact IntWalk.i64_in _ (by omega)
  have hw2 : IntKind.i64.wrap ((d : Int) + k) = (t : Int) := by rw [ht, hd, ← Int.natCast_add]; exact IntWalk.i64_in _ (by omega)
  rw [← hL] at htl ⊢
  have htn : (t : Int) < L := by omega
  have ht0 : (0 : Int) ≤ t := by omega
  clear hv hl ht hd hL hA hn4
  go_enter Tryz.func98, Tryz.ntmps98
  go_wp2_with fail
  exact bodyPost_ret (v := .agg #[.int .u64 A1, .string A2, .bool A3, .int .u64 A4, .string A5]) (by simp [results, Tryz.results98, go_sem, *]) rfl ⟨rfl, by (refine In.bel ?_; (repeat (first | (refine In.setCell ?_ (by first | omega | (simp; done) | (simp; omega)) _) | (refine In.alloc ?_ _) | (refine In.drew ?_))); (first | exact In.self _ | (refine In.out h ?_ (by first | omega | (simp; done) | (simp; omega)); (repeat (first | (refine In.setCell ?_ (by first | omega | (simp; done) | (simp; omega)) _) | (refine In.alloc ?_ _) | (refine In.drew ?_))); exact In.self _)))⟩
set_option maxRecDepth 100000 in
set_option maxHeartbeats 2000000 in
theorem mrow_any (w : World) (r c i n g : Nat) (hn : n = r * c) (hi : i < r) (hr : r ≤ 2048) (hc : c ≤ 2048) :
    Calls Tryz.prog 116 #[.agg #[.int .i64 r, .int .i64 c, .slice (some ⟨g, 0, none⟩) n n], .int .i64 i] w fun e w' => ∃ o, e = .returned (.slice (some ⟨g, o, none⟩) c c) ∧ (0 < c → o = i * c * 5) ∧ Below w.heap.size w w' := by
  have hn4 : n ≤ 4194304 := by rw [hn]; exact Nat.mul_le_mul hr hc
  have hlt : (i + 1) * c ≤ n := by rw [hn]; exact Nat.mul_le_mul_right c (by omega)
  obtain ⟨d, hd⟩ : ∃ d, d = i * c := ⟨_, rfl⟩
  have hd2 : (i + 1) * c = d + c := by rw [hd, Nat.add_mul, Nat.one_mul]
  rw [hd2] at hlt
  have hw1 : IntKind.i64.wrap ((i : Int) * c) = (d : Int) := by rw [hd, ← Int.natCast_mul]; exact IntWalk.i64_in _ (by omega)
  have hw0 : IntKind.i64.wrap ((i : Int) + 1) = ((i + 1 : Nat) : Int) := IntWalk.i64_in _ (by omega)
  obtain ⟨i1, hi1⟩ : ∃ i1, i1 = i + 1 := ⟨_, rfl⟩
  rw [← hi1] at hw0 hd2
  obtain ⟨u, hu⟩ : ∃ u, u = d + c := ⟨_, rfl⟩
  have hw2 : IntKind.i64.wrap ((i1 : Int) * c) = (u : Int) := by rw [hu, ← hd2, ← Int.natCast_mul]; exact IntWalk.i64_in _ (by rw [hd2]; omega)
  rw [← hd]
  have k1 : (d : Int) ≤ u := by omega
  have k2 : (u : Int) ≤ n := by omega
  have k3 : (0 : Int) ≤ d := by omega
  clear hd hd2 hn hi1
  go_enter Tryz.func116, Tryz.ntmps116
  go_upto_region 1 with fail
  obtain ⟨W1, hW1⟩ : ∃ W1, W1 = w.alloc (.cells #[.int .i64 r, .int .i64 c, .slice (some ⟨g, 0, none⟩) n n] 78) := ⟨_, rfl⟩
  obtain ⟨X, hX⟩ : ∃ X, X = w.heap.size := ⟨_, rfl⟩
  have hin : In w.heap.size w W1 := by rw [hW1]; exact (In.self w).alloc _
  have bx := Bx.new_at w #[.int .i64 r, .int .i64 c, .slice (some ⟨g, 0, none⟩) n n] 78 hX
  rw [← hW1] at bx ⊢
  rw [← hX]
  have x0 := bx.c0
  have x1 := bx.c1
  have x2 := bx.c2
  have xl := bx.lt
  clear hW1 hX
  have h := In.self W1
  have hcc := hc
  have hc := h.cell
  refine wp_region_flow 10 (by kernel_rfl) (by kernel_rfl) (fun _ _ d _ _ h => by cases d <;> exact h) ?_; simp only [List.take_succ_cons, List.take_zero, List.drop_succ_cons, List.drop_zero]; simp only [putAll, Act.put, List.setIfInBounds_toArray, List.set]; (try simp only [Nat.reduceAdd]); (try simp only [Nat.zero_add]); (repeat (first | ((with_reducible refine flow_float (v := ?_) ?_ ?_ ?_); rotate_left 1; (focus (with_reducible rfl)); (focus (intro u w1 hw hd w2; (try simp only [depH] at hd); (try simp only [ext] at hd); (try simp only [Nat.reduceAdd] at hd); (try simp only [Nat.reduceEqDiff] at hd); (try simp only [reduceIte] at hd); (try simp only [if_true] at hd); (try simp only [if_false] at hd); (try simp only [and_true] at hd); (try simp only [true_and] at hd); go_simp; exact rfl))) | ((with_reducible refine flow_pure0 (v := ?_) ?_ ?_ ?_ ?_); rotate_left 1; (focus (with_reducible rfl)); (focus rfl); (focus (intro u w1 hw hd; (try simp only [depH] at hd); (try simp only [ext] at hd); (try simp only [Nat.reduceAdd] at hd); (try simp only [Nat.reduceEqDiff] at hd); (try simp only [reduceIte] at hd); (try simp only [if_true] at hd); (try simp only [if_false] at hd); (try simp only [and_true] at hd); (try simp only [true_and] at hd); have hc' := hw.cell; go_simp; exact rfl))) | ((with_reducible refine flow_skipg (j := ?_) (b := ?_) ?_ ?_ ?_); rotate_left 2; (focus (with_reducible rfl)); (focus (intro u w1 hw hd; (try simp only [depH] at hd); (try simp only [ext] at hd); (try simp only [Nat.reduceAdd] at hd); (try simp only [Nat.reduceEqDiff] at hd); (try simp only [reduceIte] at hd); (try simp only [if_true] at hd); (try simp only [if_false] at hd); (try simp only [and_true] at hd); (try simp only [true_and] at hd); simp [yielded, hd]; done))) | ((with_reducible refine flow_pureg (v := ?_) (j := ?_) (b := ?_) ?_ ?_ ?_ ?_); rotate_left 3; (focus (with_reducible rfl)); (focus (intro u w1 hw hd; (try simp only [depH] at hd); (try simp only [ext] at hd); (try simp only [Nat.reduceAdd] at hd); (try simp only [Nat.reduceEqDiff] at hd); (try simp only [reduceIte] at hd); (try simp only [if_true] at hd); (try simp only [if_false] at hd); (try simp only [and_true] at hd); (try simp only [true_and] at hd); simp [yielded, hd]; done)); (focus (intro u w1 hw hd; (try simp only [depH] at hd); (try simp only [ext] at hd); (try simp only [Nat.reduceAdd] at hd); (try simp only [Nat.reduceEqDiff] at hd); (try simp only [reduceIte] at hd); (try simp only [if_true] at hd); (try simp only [if_false] at hd); (try simp only [and_true] at hd); (try simp only [true_and] at hd); have hc' := hw.cell; go_simp; exact rfl))) | ((with_reducible refine flow_alloc (t := ?_) (zs := ?_) ?_ ?_ ?_ ?_); rotate_left 2; (focus (with_reducible rfl)); (focus rfl); (focus (intro u w1; go_simp; exact rfl)))))
  (try clear hc hf h); intro u w' h ha hdi; replace h := h.ins; (try simp only [World.size_alloc] at h); (try dsimp only at ha); (repeat rw [World.size_alloc] at ha); (try simp only [allH] at ha); (try simp only [ext] at ha); (try simp only [Nat.reduceAdd] at ha); (try simp only [Nat.reduceEqDiff] at ha); (try simp only [reduceIte] at ha); (try simp only [if_true] at ha); (try simp only [if_false] at ha); (try simp only [and_true] at ha); (try simp only [true_and] at ha); have hc := h.cell; have hf := h.frozen
  (try obtain ha := ha); (try dsimp only);  simp only [ha]; clear ha hdi 
  have hin2 := hin.call h.bel
  have bx2 := bx.call h.bel
  clear h hc hf hin bx x0 x1 x2 xl
  have x2 := bx2.c2
  have xl := bx2.lt
  go_wp2_with fail
  all_goals
    go_ret
    first | exact ⟨d * 5, rfl, fun _ => rfl, hin2.bel⟩ | exact ⟨⟨0, rfl⟩, hin2.bel⟩ | exact ⟨⟨d * 5, rfl, fun _ => rfl⟩, hin2.bel⟩
set_option maxRecDepth 100000 in
set_option maxHeartbeats 4000000 in
theorem make_any (F : Nat → Nat → Rat) (w : World) (r c : Nat) (g0 : Nat) (cb : Array Value) (eg : ∀ args w, (callFunc g0 args).run Tryz.prog w = .ok (.enter g0 args) w) (hr : r ≤ 2048) (hc : c ≤ 2048)
    (hcl : ∀ i k W, i < r → k < c → In w.heap.size w W → Calls Tryz.prog g0 (#[.int .i64 (i : Nat), .int .i64 (k : Nat)] ++ cb) W fun e w' => e = .returned (fracV (F i k)) ∧ Below W.heap.size W w') :
    Calls Tryz.prog 96 #[.int .i64 r, .int .i64 c, .func (.func g0) #[] cb] w fun e w' => (∃ d, e = .returned (.tuple #[d, .int .i64 0]) ∧ MatAt w' d r c (dense r c F)) ∧ Below w.heap.size w w' := by
  have h1 := msides_any r c
  rw [show sidesE (r : Int) c = 0 by unfold sidesE; rw [if_neg (by omega), if_neg (by omega)]] at h1
  obtain ⟨n, hn⟩ : ∃ n, n = r * c := ⟨_, rfl⟩
  have hn4 : n ≤ 4194304 := by rw [hn]; exact Nat.mul_le_mul hr hc
  have HN := Lib.hid hn
  have hmk := info_frac6 n hn4
  have hwm : IntKind.i64.wrap ((r : Int) * c) = (n : Int) := by rw [hn, ← Int.natCast_mul]; exact IntWalk.i64_in _ (by rw [← hn]; omega)
  obtain ⟨fc, hfc⟩ : ∃ fc, fc = fcl (List.replicate n 0) := ⟨_, rfl⟩
  have HF := Lib.hid hfc
  rw [← hfc] at hmk
  obtain ⟨X, hX⟩ : ∃ X, X = w.heap.size := ⟨_, rfl⟩
  have HX := Lib.hid hX
  have HC := Lib.hid hcl
  have hnf : ∀ W, (binOp .eql 58 (.func (.func g0) #[] cb) .nilFunc).run Tryz.prog W = .ok (.bool false) W := fun W => rfl
  clear hn hfc hcl
  go_enter Tryz.func96, Tryz.ntmps96
  go_wp2_with fail
  ((with_reducible refine (h1 _).mono ?_))
  rintro e w1 ⟨rfl, hb⟩
  have hin := ((In.self w).alloc (.cells #[.int .i64 0, .int .i64 0, .slice none 0 0] 78)).call hb
  have bx := (Bx.new_at w #[.int .i64 0, .int .i64 0, .slice none 0 0] 78 hX).call hb
  rw [← hX] at hin ⊢
  have x0 := bx.c0
  have x1 := bx.c1
  have x2 := bx.c2
  have xl := bx.lt
  clear hX hb h1
  go_upto_region 7 with fail
  obtain ⟨g, hg⟩ : ∃ g, g = w1.heap.size := ⟨_, rfl⟩
  have hXg : X < g := by omega
  have bv : VBx ((w1.alloc (.cells fc.toArray 56)).alloc (.cells #[.int .i64 r, .int .i64 c, .slice (some ⟨g, 0, none⟩) n n] 78)) g (pv (fun p => F (p / c) (p % c)) n 0) := by
    have := (Bx.new_at w1 fc.toArray 56 hg).alloc (.cells #[.int .i64 r, .int .i64 c, .slice (some ⟨g, 0, none⟩) n n] 78)
    show Bx _ g 56 (fcl _)
    rw [pv_zero, ← HF.out]; exact this
  have bs := Bx.new_at (w1.alloc (.cells fc.toArray 56)) #[.int .i64 r, .int .i64 c, .slice (some ⟨g, 0, none⟩) n n] 78 (n := g + 1) (by rw [World.size_alloc, hg])
  replace bx := (bx.alloc (.cells fc.toArray 56)).alloc (.cells #[.int .i64 r, .int .i64 c, .slice (some ⟨g, 0, none⟩) n n] 78)
  replace hin := (hin.alloc (.cells fc.toArray 56)).alloc (.cells #[.int .i64 r, .int .i64 c, .slice (some ⟨g, 0, none⟩) n n] 78)
  rw [← hg]
  clear hg hmk x0 x1 x2 xl hnf hwm
  generalize (w1.alloc (.cells fc.toArray 56)).alloc (.cells #[.int .i64 r, .int .i64 c, .slice (some ⟨g, 0, none⟩) n n] 78) = W1 at *
  go_wp2_with fail
  go_loopw [31] (fun v31 wr => ∃ i : Nat, i ≤ r ∧ v31 = .int .i64 i ∧ In X w wr ∧ Bx wr X 78 [.int .i64 0, .int .i64 0, .slice none 0 0] ∧ Bx wr (g + 1) 78 [.int .i64 r, .int .i64 c, .slice (some ⟨g, 0, none⟩) n n] ∧ VBx wr g (pv (fun p => F (p / c) (p % c)) n (i * c))) (fun v31 _ => r - (RowKit.intOf v31).toNat)
  case atStart => exact ⟨0, Nat.zero_le _, rfl, hin, bx, bs, by rw [Nat.zero_mul]; exact bv⟩
  case round =>
    clear hin bx bs bv
    obtain ⟨i, hi, rfl, hin, bx, bs, bv⟩ := hrel
    by_cases hir : i < r
    · have hiI : (i : Int) < r := by omega
      have s0 := bs.c0
      have s1 := bs.c1
      have s2 := bs.c2
      have sl := bs.lt
      have s0 := bs.c0
      have s1 := bs.c1
      have s2 := bs.c2
      have sl := bs.lt
      have hrow := mrow_any wr r c i n g HN.out hir hr hc
      obtain ⟨d, hd⟩ : ∃ d, d = i * c := ⟨_, rfl⟩
      have hdn : d + c ≤ n := by
        have := Nat.mul_le_mul_right c (show i + 1 ≤ r by omega)
        rw [Nat.add_mul, Nat.one_mul] at this
        rw [hd, HN.out]; exact this
      simp only [← hd] at hrow bv
      have HD := Lib.hid hd
      clear hd
      go_wp2_with fail
      ((with_reducible refine hrow.mono ?_))
      rintro e w2 ⟨o, rfl, ho, hb⟩
      replace hin := hin.call hb
      replace bx := bx.call hb
      replace bs := bs.call hb
      replace bv := bv.call hb
      clear hb hrow s0 s1 s2 sl
      go_wp2_with fail
      go_loopw [38] (fun v38 wq => ∃ k : Nat, k ≤ c ∧ v38 = .int .i64 k ∧ In X w wq ∧ Bx wq X 78 [.int .i64 0, .int .i64 0, .slice none 0 0] ∧ Bx wq (g + 1) 78 [.int .i64 r, .int .i64 c, .slice (some ⟨g, 0, none⟩) n n] ∧ VBx wq g (pv (fun p => F (p / c) (p % c)) n (d + k))) (fun v38 _ => c - (RowKit.intOf v38).toNat)
      case atStart => exact ⟨0, Nat.zero_le _, rfl, hin, bx, bs, bv⟩
      case round =>
        clear hin bx bs bv
        obtain ⟨k, hk, rfl, hin, bx, bs, bv⟩ := hrel
        by_cases hkc : k < c
        · have hkI : (k : Int) < c := by omega
          have hk0 : (0 : Int) ≤ k := by omega
          have hcl := HC.out i k wr hir hkc (by rw [← HX.out]; exact hin)
          obtain ⟨q, hq⟩ : ∃ q, q = F i k := ⟨_, rfl⟩
          rw [← hq] at hcl
          have HQ := Lib.hid hq
          clear hq
          go_wp2_with fail
          (refine hcl.mono ?_)
          rintro e w3 ⟨rfl, hb⟩
          have hin3 := hin.call hb
          have bx3 := bx.call hb
          have bs3 := bs.call hb
          have bv3 := bv.call hb
          obtain rfl := ho (by omega)
          have hlt : d + k < (pv (fun p => F (p / c) (p % c)) n (d + k)).length := by rw [pv_length]; omega
          obtain ⟨_, _, _, _, _, _, c0, c1, c2, c3, c4, f0, f1, f2, f3, f4⟩ := VBx.cells bv3 hlt
          have hgl := bv3.lt
          have hs := VBx.set bv3 (d + k) q hlt
          rw [show (pv (fun p => F (p / c) (p % c)) n (d + k)).set (d + k) q = pv (fun p => F (p / c) (p % c)) n (d + (k + 1)) by
            rw [HQ.out, show F i k = (fun p => F (p / c) (p % c)) (d + k) by
              simp only [HD.out, (pos_of (i := i) hkc).1, (pos_of (i := i) hkc).2]]
            exact pv_set _ _ _] at hs
          have hX1 : X + 1 + 1 ≤ g + 1 := by omega
          have hi5 := hin3.put5 (g := g) (by omega) (d + k) q
          have bx5 := ((((bx3.other (a := ⟨g, (d + k) * 5, none⟩) (by simp; omega) (.int .u64 (lo q.num.natAbs))).other (a := ⟨g, (d + k) * 5 + 1, none⟩) (by simp; omega) (.string (bg q.num.natAbs))).other (a := ⟨g, (d + k) * 5 + 2, none⟩) (by simp; omega) (.bool (decide (q.num < 0)))).other (a := ⟨g, (d + k) * 5 + 3, none⟩) (by simp; omega) (.int .u64 (lo (q.den - 1)))).other (a := ⟨g, (d + k) * 5 + 4, none⟩) (by simp; omega) (.string (bg (q.den - 1)))
          have bs5 := ((((bs3.other (a := ⟨g, (d + k) * 5, none⟩) (by simp) (.int .u64 (lo q.num.natAbs))).other (a := ⟨g, (d + k) * 5 + 1, none⟩) (by simp) (.string (bg q.num.natAbs))).other (a := ⟨g, (d + k) * 5 + 2, none⟩) (by simp) (.bool (decide (q.num < 0)))).other (a := ⟨g, (d + k) * 5 + 3, none⟩) (by simp) (.int .u64 (lo (q.den - 1)))).other (a := ⟨g, (d + k) * 5 + 4, none⟩) (by simp) (.string (bg (q.den - 1)))
          rw [Nat.add_mul] at hs hi5 bx5 bs5 c0 c1 c2 c3 c4 f0 f1 f2 f3 f4
          have H1 := Lib.hid hs
          have H2 := Lib.hid hi5
          have H3 := Lib.hid bx5
          have H4 := Lib.hid bs5
          have hkw : IntKind.i64.wrap ((k : Int) + 1) = ((k + 1 : Nat) : Int) := IntWalk.i64_in _ (by omega)
          clear hs hi5 bx5 bs5 hin3 bx3 bs3 bv3 hin bx bs bv hb hcl
          go_wp2_with fail
          exact ⟨⟨k + 1, by omega, by go_num, H2.out, H3.out, H4.out, H1.out⟩, by simp [RowKit.intOf]; omega⟩
        · obtain rfl : k = c := by omega
          have hkI : ¬ (k : Int) < k := by omega
          have hiw : IntKind.i64.wrap ((i : Int) + 1) = ((i + 1 : Nat) : Int) := IntWalk.i64_in _ (by omega)
          have H1 : Hid (VBx wr g (pv (fun p => F (p / k) (p % k)) n ((i + 1) * k))) := Lib.hid (by rw [Nat.add_mul, Nat.one_mul, ← HD.out]; exact bv)
          have H2 := Lib.hid hin
          have H3 := Lib.hid bx
          have H4 := Lib.hid bs
          clear hin bx bs bv
          go_wp2_with fail
          exact ⟨⟨i + 1, by omega, by go_num, H2.out, H3.out, H4.out, H1.out⟩, by simp [RowKit.intOf]; omega⟩
    · obtain rfl : i = r := by omega
      have hiI : ¬ (i : Int) < i := by omega
      rw [← HN.out, pv_full] at bv
      have s0 := bs.c0
      have s1 := bs.c1
      have s2 := bs.c2
      have sl := bs.lt
      have x0 := bx.c0
      have x1 := bx.c1
      have x2 := bx.c2
      have x3 := bx.frozen 0
      have x4 := bx.frozen 1
      have x5 := bx.frozen 2
      have xl := bx.lt
      have hXg2 : ¬ X = g := by omega
      have G1 := Lib.hid (((bx.set 0 (.int .i64 i)).set 1 (.int .i64 c)).set 2 (.slice (some ⟨g, 0, none⟩) n n))
      have G2 := Lib.hid (((Bx.other (a := ⟨X, 0, none⟩) bv hXg2 (.int .i64 i)).other (a := ⟨X, 1, none⟩) hXg2 (.int .i64 c)).other (a := ⟨X, 2, none⟩) hXg2 (.slice (some ⟨g, 0, none⟩) n n))
      have G3 := Lib.hid (((hin.setCell (p := ⟨X, 0, none⟩) (Nat.le_refl _) (.int .i64 i)).setCell (p := ⟨X, 1, none⟩) (Nat.le_refl _) (.int .i64 c)).setCell (p := ⟨X, 2, none⟩) (Nat.le_refl _) (.slice (some ⟨g, 0, none⟩) n n))
      clear hin bx bs bv
      go_wp2_with fail
      have g1 := G1.out
      have g2 := G2.out
      have g3 := G3.out
      clear G1 G2 G3 s0 s1 s2 sl x0 x1 x2 x3 x4 x5 xl
      generalize ((wr.setCell ⟨X, 0, none⟩ (.int .i64 i)).setCell ⟨X, 1, none⟩ (.int .i64 c)).setCell ⟨X, 2, none⟩ (.slice (some ⟨g, 0, none⟩) n n) = W5 at *
      have e0 : W5.cell? ⟨X, 0, none⟩ = some (.int .i64 i) := g1.cell 0
      have e1 : W5.cell? ⟨X, 1, none⟩ = some (.int .i64 c) := g1.cell 1
      have e2 : W5.cell? ⟨X, 2, none⟩ = some (.slice (some ⟨g, 0, none⟩) n n) := g1.cell 2
      have hv : VecAt W5 (.slice (some ⟨g, 0, none⟩) n n) (dense i c F) := by
        have := VBx.at g2 n (by simp) n
        rw [HN.out] at this ⊢
        exact this
      refine bodyPost_ret (v := .tuple #[.agg #[.int .i64 i, .int .i64 c, .slice (some ⟨g, 0, none⟩) n n], .int .i64 0]) ?_ rfl ⟨⟨_, rfl, _, rfl, dense_length i c F, hv⟩, by rw [← HX.out]; exact g3.bel⟩
      simp [results, Tryz.results96, go_sem, e0, e1, e2]
end Gus
end
section
/- An entry is found: slices.BinarySearchFunc over a row, (Sparse).at. -/
namespace Gus
open Go Go.RowKit Go.Proofs
set_option maxHeartbeats 1000000 in
theorem sat1_any (x : Ent) (k : Nat) (w : World) : Calls Tryz.prog 149 #[.agg (ecs x).toArray, .int .i64 k] w fun e w' => e = .returned (.int .i64 (Lib.compareInt x.1 k)) ∧ Below w.heap.size w w' := by
  have hcon := fun W' => Tryz.cmp_Compare_int x.1 k W'
  generalize Lib.compareInt x.1 k = r at hcon ⊢
  unfold ecs fcs
  go_enter Tryz.func149, Tryz.ntmps149
  go_wp2_with (go_at_call 70; refine (hcon _).mono ?_; rintro e w' ⟨rfl, rfl⟩)
  go_ret
  exact ⟨rfl, by (refine In.bel ?_; (repeat (first | (refine In.setCell ?_ (by first | omega | (simp; done) | (simp; omega)) _) | (refine In.alloc ?_ _) | (refine In.drew ?_))); (first | exact In.self _ | (refine In.out h ?_ (by first | omega | (simp; done) | (simp; omega)); (repeat (first | (refine In.setCell ?_ (by first | omega | (simp; done) | (simp; omega)) _) | (refine In.alloc ?_ _) | (refine In.drew ?_))); exact In.self _)))⟩
theorem asc_mono {es : List Ent} (h : Asc es) {p q : Nat} (hpq : p ≤ q) (hq : q < es.length) : (es.getD p (0, 0)).1 ≤ (es.getD q (0, 0)).1 := by
  rcases Nat.lt_or_ge p q with h1 | h1
  · have := List.pairwise_iff_getElem.1 h p q (by omega) hq h1
    simp only [List.getD_eq_getElem?_getD, List.getElem?_eq_getElem hq, List.getElem?_eq_getElem (show p < es.length by omega), Option.getD_some]
    omega
  · obtain rfl : p = q := by omega
    exact Nat.le_refl _
def BsPost (w : World) (es : List Ent) (k : Nat) (e : Ending) (w' : World) : Prop := (∃ p fnd, e = .returned (.tuple #[.int .i64 (p : Nat), .bool fnd]) ∧ (fnd = true → p < es.length ∧ (es.getD p (0, 0)).1 = k) ∧ (fnd = false → ∀ e ∈ es, e.1 ≠ k)) ∧ Below w.heap.size w w'
set_option maxRecDepth 100000 in
set_option maxHeartbeats 2000000 in
theorem bs_any (w : World) (v : Value) (es : List Ent) (hg : RowG w v (es.map cI)) (k : Nat) (hl : es.length ≤ 4096) (ha : Asc es) :
    Calls Tryz.prog 148 #[v, .int .i64 k, .func (.func 149) #[] #[]] w (BsPost w es k) := by
  have eg : ∀ args w, (callFunc 149 args).run Tryz.prog w = .ok (.enter 149 args) w := enters_of Tryz.func149 (by kernel_rfl) rfl
  obtain ⟨n, hn⟩ : ∃ n, n = es.length := ⟨_, rfl⟩
  have HG := Lib.hid hg
  obtain ⟨a, cap, rfl, h9⟩ := hg
  clear h9
  rw [List.length_map, ← hn]
  have hln : n ≤ 4096 := by omega
  have HN := Lib.hid hn
  have HA := Lib.hid ha
  clear hn ha hl
  go_enter Tryz.func148, Tryz.ntmps148
  go_wp2_with fail
  go_loopw [9, 10] (fun v9 v10 wr => ∃ lo hi : Nat, lo ≤ hi ∧ hi ≤ n ∧ v9 = .int .i64 lo ∧ v10 = .int .i64 hi ∧ Below w.heap.size w wr ∧ Hid ((∀ p, p < lo → (es.getD p (0, 0)).1 < k) ∧ ∀ p, hi ≤ p → p < n → k ≤ (es.getD p (0, 0)).1)) (fun v9 v10 _ => (RowKit.intOf v10).toNat - (RowKit.intOf v9).toNat)
  case atStart => exact ⟨0, n, Nat.zero_le _, Nat.le_refl _, rfl, rfl, Below.refl _ _, Lib.hid ⟨fun p h => absurd h (Nat.not_lt_zero _), fun p h1 h2 => by omega⟩⟩
  case round =>
    obtain ⟨lo, hi, h1, h2, rfl, rfl, hbel, HI⟩ := hrel
    by_cases hlh : lo < hi
    · have hlI : (lo : Int) < hi := by omega
      obtain ⟨m, hm⟩ : ∃ m, m = (lo + hi) / 2 := ⟨_, rfl⟩
      have hmm : ((lo : Int) + hi) / 2 = (m : Int) := by omega
      have hw1 : IntKind.i64.wrap ((lo : Int) + hi) = ((lo : Int) + hi) := IntWalk.i64_in _ (by omega)
      have hml : lo ≤ m := by omega
      have hmh : m < hi := by omega
      have hml2 : m < es.length := by rw [← HN.out]; omega
      have hmI : (m : Int) < n := by omega
      have hm0 : (0 : Int) ≤ m := by omega
      obtain ⟨b1, o1, k1, A1, A2, A3, A4, A5, hv1, hb1, hf1, _, x0, x1, x2, x3, x4, x5⟩ := (HG.out.call hbel).at (i := m) (by rw [List.length_map]; exact hml2)
      have hgd : (es.map cI).getD m (0, 0) = cI (es.getD m (0, 0)) := by
        simp only [List.getD_eq_getElem?_getD, List.getElem?_map, List.getElem?_eq_getElem hml2]; rfl
      rw [hgd] at x0 hf1
      obtain ⟨e, he⟩ : ∃ e, e = es.getD m (0, 0) := ⟨_, rfl⟩
      rw [← he] at x0 hf1
      have hcon := sat1_any e k wr
      unfold ecs at hcon
      obtain ⟨y, q⟩ := e
      simp only [cI] at x0 hf1 hcon
      rw [hf1] at hcon
      simp only [Value.slice.injEq] at hv1
      obtain ⟨rfl, _, hk1⟩ := hv1
      subst hk1
      have HE := Lib.hid he
      clear he hgd hf1 hm
      go_upto_region 5 with fail
      clear hmm hw1
      have hcc : Lib.compareInt y k = if y < k then -1 else if k < y then 1 else 0 := by
        unfold Lib.compareInt
        by_cases h1 : (y : Int) < k <;> by_cases h2 : (k : Int) < y <;> simp [h1, h2] <;> omega
      by_cases hyk : y < k
      · rw [hcc, if_pos hyk] at hcon
        clear hcc
        go_wp2_with fail
        ((with_reducible refine hcon.mono ?_))
        rintro e w2 ⟨rfl, hb⟩
        have hbel2 := hbel.trans (hb.mono hbel.size)
        clear hb hcon x0 x1 x2 x3 x4 x5
        have hmw : IntKind.i64.wrap ((m : Int) + 1) = ((m + 1 : Nat) : Int) := IntWalk.i64_in _ (by omega)
        go_wp2_with fail
        exact ⟨⟨m + 1, hi, by omega, h2, by go_num, rfl, hbel2, Lib.hid ⟨fun p hp => by
          have := asc_mono HA.out (show p ≤ m by omega) hml2
          rw [← HE.out] at this
          simp only at this
          omega, HI.out.2⟩⟩, by simp [RowKit.intOf]; omega⟩
      · rw [hcc, if_neg hyk] at hcon
        obtain ⟨z, hz⟩ : ∃ z : Int, z = if k < y then 1 else 0 := ⟨_, rfl⟩
        rw [← hz] at hcon
        have hz0 : ¬ z < 0 := by rw [hz]; split <;> omega
        clear hcc hz
        go_wp2_with fail
        ((with_reducible refine hcon.mono ?_))
        rintro e w2 ⟨rfl, hb⟩
        have hbel2 := hbel.trans (hb.mono hbel.size)
        clear hb hcon x0 x1 x2 x3 x4 x5
        go_wp2_with fail
        exact ⟨⟨lo, m, hml, by omega, rfl, rfl, hbel2, Lib.hid ⟨HI.out.1, fun p hp hpn => by
          have := asc_mono HA.out hp (by rw [← HN.out]; exact hpn)
          rw [← HE.out] at this
          simp only at this
          omega⟩⟩, by simp [RowKit.intOf]; omega⟩
    · have hlI : ¬ (lo : Int) < hi := by omega
      obtain rfl : lo = hi := by omega
      by_cases hln2 : lo < n
      · have hlnI : (lo : Int) < n := by omega
        have hl0 : (0 : Int) ≤ lo := by omega
        have hml2 : lo < es.length := by rw [← HN.out]; omega
        obtain ⟨b1, o1, k1, A1, A2, A3, A4, A5, hv1, hb1, hf1, _, x0, x1, x2, x3, x4, x5⟩ := (HG.out.call hbel).at (i := lo) (by rw [List.length_map]; exact hml2)
        have hgd : (es.map cI).getD lo (0, 0) = cI (es.getD lo (0, 0)) := by
          simp only [List.getD_eq_getElem?_getD, List.getElem?_map, List.getElem?_eq_getElem hml2]; rfl
        rw [hgd] at x0 hf1
        obtain ⟨e, he⟩ : ∃ e, e = es.getD lo (0, 0) := ⟨_, rfl⟩
        rw [← he] at x0 hf1
        have hcon := sat1_any e k wr
        unfold ecs at hcon
        obtain ⟨y, q⟩ := e
        simp only [cI] at x0 hf1 hcon
        rw [hf1] at hcon
        simp only [Value.slice.injEq] at hv1
        obtain ⟨rfl, _, hk1⟩ := hv1
        subst hk1
        have HE := Lib.hid he
        clear he hgd hf1
        have hky : k ≤ y := by
          have := HI.out.2 lo (Nat.le_refl _) hln2
          rw [← HE.out] at this
          exact this
        have hcc : Lib.compareInt y k = if k < y then 1 else 0 := by
          unfold Lib.compareInt
          by_cases h1 : (y : Int) < k <;> by_cases h2 : (k : Int) < y <;> simp [h1, h2] <;> omega
        rw [hcc] at hcon
        obtain ⟨z, hz⟩ : ∃ z : Int, z = if k < y then 1 else 0 := ⟨_, rfl⟩
        rw [← hz] at hcon
        have HZ : Hid ((z == 0) = decide (y = k)) := Lib.hid (by
          rw [hz]
          by_cases h : k < y
          · have : ¬ y = k := by omega
            simp [h, this]
          · have : y = k := by omega
            simp [this])
        clear hcc hz
        go_wp2_with fail
        ((with_reducible refine hcon.mono ?_))
        rintro e w2 ⟨rfl, hb⟩
        have hbel2 := hbel.trans (hb.mono hbel.size)
        clear hb hcon x0 x1 x2 x3 x4 x5
        go_wp2_with fail
        refine bodyPost_ret (v := .tuple #[.int .i64 lo, .bool (z == 0)]) (by simp [results, Tryz.results148, go_sem]) rfl ⟨⟨lo, z == 0, rfl, fun h => ⟨by rw [← HN.out]; exact hln2, ?_⟩, fun h e he => ?_⟩, hbel2⟩
        · rw [HZ.out] at h
          rw [← HE.out]
          exact of_decide_eq_true h
        · rw [HZ.out] at h
          have hne := of_decide_eq_false h
          obtain ⟨p, hp, rfl⟩ := List.getElem_of_mem he
          have e1 : es[p] = es.getD p (0, 0) := by rw [List.getD_eq_getElem?_getD, List.getElem?_eq_getElem hp]; rfl
          rw [e1]
          rcases Nat.lt_or_ge p lo with h1 | h1
          · have := HI.out.1 p h1
            omega
          · have := asc_mono HA.out h1 hp
            rw [← HE.out] at this
            simp only at this
            omega
      · have hlnI : ¬ (lo : Int) < n := by omega
        go_wp2_with fail
        refine bodyPost_ret (v := .tuple #[.int .i64 lo, .bool false]) (by simp [results, Tryz.results148, go_sem]) rfl ⟨⟨lo, false, rfl, fun h => (by cases h), fun h e he => ?_⟩, hbel⟩
        obtain ⟨p, hp, rfl⟩ := List.getElem_of_mem he
        have e1 : es[p] = es.getD p (0, 0) := by rw [List.getD_eq_getElem?_getD, List.getElem?_eq_getElem hp]; rfl
        rw [e1]
        have := HI.out.1 p (by have := HN.out; omega)
        omega
/-- an entry of a sparse matrix -/
theorem row_found {g : Nat → Rat} {M k p : Nat} (hp : p < (rowOf g M).length) (h : ((rowOf g M).getD p (0, 0)).1 = k) : ((rowOf g M).getD p (0, 0)).2 = g k := by
  have e1 : (rowOf g M).getD p (0, 0) = (rowOf g M)[p] := by rw [List.getD_eq_getElem?_getD, List.getElem?_eq_getElem hp]; rfl
  have hm : ((rowOf g M).getD p (0, 0)) ∈ rowOf g M := by rw [e1]; exact List.getElem_mem hp
  generalize (rowOf g M).getD p (0, 0) = e at *
  obtain ⟨a, q⟩ := e
  have := mem_rowOf.1 hm
  simp only at h
  subst h
  exact this.2.2
theorem row_none {g : Nat → Rat} {M k : Nat} (hk : k < M) (h : ∀ e ∈ rowOf g M, e.1 ≠ k) : g k = 0 := by
  by_cases hz : g k = 0
  · exact hz
  · exact absurd rfl (h (k, g k) (mem_rowOf.2 ⟨hk, hz, rfl⟩))
set_option maxRecDepth 100000 in
set_option maxHeartbeats 2000000 in
theorem sat_any (w : World) (v : Value) (r c i k : Nat) (f : Nat → Nat → Rat) (hS : SpM w v r c f) (hi : i < r) (hk : k < c) (hc : c ≤ 2048) :
    Calls Tryz.prog 92 #[v, .int .i64 i, .int .i64 k] w fun e w' => e = .returned (fracV (f i k)) ∧ Below w.heap.size w w' := by
  obtain ⟨a, cap, rfl, hrow⟩ := hS
  rw [mrows_length] at hrow ⊢
  obtain ⟨b, off, x, rfl, hb, hcx, hxr⟩ := hrow i hi
  rw [mrows_getD c f hi] at hxr
  have hasc := rowOf_asc (f i) c
  have hlen := rowOf_length (f i) c
  obtain ⟨es, hes⟩ : ∃ es, es = rowOf (f i) c := ⟨_, rfl⟩
  rw [← hes] at hxr hasc hlen
  have hxg := hxr.g
  have hbs := fun W (h : Below w.heap.size w W) => bs_any W x es (hxg.call h) k (by omega) hasc
  obtain ⟨xa, xc, rfl, h9⟩ := hxr
  clear h9
  obtain ⟨X, hX⟩ : ∃ X, X = w.heap.size := ⟨_, rfl⟩
  have HX := Lib.hid hX
  have hiI : (i : Int) < r := by omega
  have hi0 : (0 : Int) ≤ i := by omega
  obtain ⟨K, hK⟩ : ∃ K, K = es.length := ⟨_, rfl⟩
  rw [← hK] at hbs hcx
  have HXG := Lib.hid hxg
  have HES := Lib.hid hes
  have HK := Lib.hid hK
  obtain ⟨q, hq⟩ : ∃ q, q = f i k := ⟨_, rfl⟩
  rw [← hq]
  have HQ := Lib.hid hq
  clear hq
  clear hrow hes hK hasc hlen hxg
  go_enter Tryz.func92, Tryz.ntmps92
  go_wp2_with fail
  ((with_reducible refine (hbs _ ?_).mono ?_))
  · exact (((In.self w).alloc _).alloc _).bel
  rintro e w2 ⟨⟨p, fnd, rfl, hf1, hf2⟩, hb2⟩
  have hin := (((In.self w).alloc (.cells #[.int .i64 r, .int .i64 c, .slice (some ⟨b, off, none⟩) r cap] 63)).alloc (.cells #[.int .u64 0, .string ⟨#[]⟩, .bool false, .int .u64 0, .string ⟨#[]⟩] 56)).call hb2
  have bx := ((Bx.new_at w #[.int .i64 r, .int .i64 c, .slice (some ⟨b, off, none⟩) r cap] 63 hX).alloc (.cells #[.int .u64 0, .string ⟨#[]⟩, .bool false, .int .u64 0, .string ⟨#[]⟩] 56)).call hb2
  have bq := (Bx.new_at (w.alloc (.cells #[.int .i64 r, .int .i64 c, .slice (some ⟨b, off, none⟩) r cap] 63)) #[.int .u64 0, .string ⟨#[]⟩, .bool false, .int .u64 0, .string ⟨#[]⟩] 56 (n := X + 1) (by rw [World.size_alloc, hX])).call hb2
  have hbw : b < w2.heap.size := by have := hin.siz; omega
  rw [← hin.cell b _ hb] at hcx
  have hxg2 := HXG.out.call hin.bel
  rw [← hX] at hin ⊢
  clear hX hb hb2 hbs
  have x0 := bx.c0
  have x1 := bx.c1
  have x2 := bx.c2
  have xl := bx.lt
  have q0 := bq.c0
  have q1 := bq.c1
  have q2 := bq.c2
  have q3 := bq.c3
  have q4 := bq.c4
  have f0 := bq.frozen 0
  have f1 := bq.frozen 1
  have f2 := bq.frozen 2
  have f3 := bq.frozen 3
  have f4 := bq.frozen 4
  have ql := bq.lt
  rcases fnd with _ | _
  · obtain rfl : q = 0 := HQ.out.trans (row_none (M := c) hk (by rw [← HES.out]; exact hf2 rfl))
    have K1 := Lib.hid (((((bq.set 0 (.int .u64 0)).set 1 (.string ⟨#[]⟩)).set 2 (.bool false)).set 3 (.int .u64 0)).set 4 (.string ⟨#[]⟩))
    have K2 := Lib.hid (((((hin.setCell (p := ⟨X + 1, 0, none⟩) (by simp) (.int .u64 0)).setCell (p := ⟨X + 1, 1, none⟩) (by simp) (.string ⟨#[]⟩)).setCell (p := ⟨X + 1, 2, none⟩) (by simp) (.bool false)).setCell (p := ⟨X + 1, 3, none⟩) (by simp) (.int .u64 0)).setCell (p := ⟨X + 1, 4, none⟩) (by simp) (.string ⟨#[]⟩))
    clear hf1 hf2 hin bx bq hxg2
    go_wp2_with fail
    have k1 := K1.out
    have k2 := K2.out
    generalize ((((w2.setCell ⟨X + 1, 0, none⟩ (.int .u64 0)).setCell ⟨X + 1, 1, none⟩ (.string ⟨#[]⟩)).setCell ⟨X + 1, 2, none⟩ (.bool false)).setCell ⟨X + 1, 3, none⟩ (.int .u64 0)).setCell ⟨X + 1, 4, none⟩ (.string ⟨#[]⟩) = W5 at *
    have e0 : W5.cell? ⟨X + 1, 0, none⟩ = some (.int .u64 0) := k1.cell 0
    have e1 : W5.cell? ⟨X + 1, 1, none⟩ = some (.string ⟨#[]⟩) := k1.cell 1
    have e2 : W5.cell? ⟨X + 1, 2, none⟩ = some (.bool false) := k1.cell 2
    have e3 : W5.cell? ⟨X + 1, 3, none⟩ = some (.int .u64 0) := k1.cell 3
    have e4 : W5.cell? ⟨X + 1, 4, none⟩ = some (.string ⟨#[]⟩) := k1.cell 4
    refine bodyPost_ret (v := .agg #[.int .u64 0, .string ⟨#[]⟩, .bool false, .int .u64 0, .string ⟨#[]⟩]) ?_ rfl ⟨rfl, by rw [← HX.out]; exact k2.bel⟩
    simp [results, Tryz.results92, go_sem, e0, e1, e2, e3, e4]
  · obtain ⟨hp, he⟩ := hf1 rfl
    have hq2 := row_found (g := f i) (M := c) (p := p) (k := k) (by rw [← HES.out]; exact hp) (by rw [← HES.out]; exact he)
    rw [← HES.out] at hq2
    obtain ⟨b1, o1, k1, A1, A2, A3, A4, A5, hv1, hb1, hf1, hf3, y0, y1, y2, y3, y4, y5⟩ := hxg2.at (i := p) (by rw [List.length_map]; exact hp)
    have hgd : (es.map cI).getD p (0, 0) = cI (es.getD p (0, 0)) := by
      simp only [List.getD_eq_getElem?_getD, List.getElem?_map, List.getElem?_eq_getElem hp]; rfl
    rw [hgd] at hf3 y0
    have hf4 : fracV q = .agg #[.int .u64 A1, .string A2, .bool A3, .int .u64 A4, .string A5] := by
      rw [HQ.out, ← hq2]; exact hf3
    have HF4 := Lib.hid hf4
    simp only [Value.slice.injEq] at hv1
    obtain ⟨rfl, _, hk1⟩ := hv1
    subst hk1
    have hpI : (p : Int) < K := by have := HK.out; omega
    have hp0 : (0 : Int) ≤ p := by omega
    have K1 := Lib.hid (((((bq.set 0 (.int .u64 A1)).set 1 (.string A2)).set 2 (.bool A3)).set 3 (.int .u64 A4)).set 4 (.string A5))
    have K2 := Lib.hid (((((hin.setCell (p := ⟨X + 1, 0, none⟩) (by simp) (.int .u64 A1)).setCell (p := ⟨X + 1, 1, none⟩) (by simp) (.string A2)).setCell (p := ⟨X + 1, 2, none⟩) (by simp) (.bool A3)).setCell (p := ⟨X + 1, 3, none⟩) (by simp) (.int .u64 A4)).setCell (p := ⟨X + 1, 4, none⟩) (by simp) (.string A5))
    clear hf2 hf1 hf3 hf4 hgd hq2 hin bx bq hxg2 he hp y0
    go_wp2_with fail
    have k1 := K1.out
    have k2 := K2.out
    generalize ((((w2.setCell ⟨X + 1, 0, none⟩ (.int .u64 A1)).setCell ⟨X + 1, 1, none⟩ (.string A2)).setCell ⟨X + 1, 2, none⟩ (.bool A3)).setCell ⟨X + 1, 3, none⟩ (.int .u64 A4)).setCell ⟨X + 1, 4, none⟩ (.string A5) = W5 at *
    have e0 : W5.cell? ⟨X + 1, 0, none⟩ = some (.int .u64 A1) := k1.cell 0
    have e1 : W5.cell? ⟨X + 1, 1, none⟩ = some (.string A2) := k1.cell 1
    have e2 : W5.cell? ⟨X + 1, 2, none⟩ = some (.bool A3) := k1.cell 2
    have e3 : W5.cell? ⟨X + 1, 3, none⟩ = some (.int .u64 A4) := k1.cell 3
    have e4 : W5.cell? ⟨X + 1, 4, none⟩ = some (.string A5) := k1.cell 4
    refine bodyPost_ret (v := .agg #[.int .u64 A1, .string A2, .bool A3, .int .u64 A4, .string A5]) ?_ rfl ⟨by rw [HF4.out], by rw [← HX.out]; exact k2.bel⟩
    simp [results, Tryz.results92, go_sem, e0, e1, e2, e3, e4]
end Gus
end
section
/- slices.IndexFunc, slices.ContainsFunc over integers; the closures of both Parts. -/
namespace Gus
open Go Go.RowKit Go.Proofs
def IdxPost (w : World) (xs : List Int) (p : Int → Bool) (e : Ending) (w' : World) : Prop := (∃ z : Int, e = .returned (.int .i64 z) ∧ decide (0 ≤ z) = xs.any p) ∧ Below w.heap.size w w'
set_option maxRecDepth 100000 in
set_option maxHeartbeats 2000000 in
theorem idx_any (p : Int → Bool) (w : World) (a : Option Addr) (cap : Nat) (xs : List Int) (hx : IntsAt w a xs) (hl : xs.length ≤ 4096) (g : Nat) (cb : Array Value) (eg : ∀ args w, (callFunc g args).run Tryz.prog w = .ok (.enter g args) w)
    (hcl : ∀ x W, In w.heap.size w W → Calls Tryz.prog g (#[.int .i64 (x : Int)] ++ cb) W fun e w' => e = .returned (.bool (p x)) ∧ Below W.heap.size W w') :
    Calls Tryz.prog 147 #[.slice a xs.length cap, .func (.func g) #[] cb] w (IdxPost w xs p) := by
  obtain ⟨L, hL⟩ : ∃ L, L = xs.length := ⟨_, rfl⟩
  unfold IntsAt at hx
  rw [← hL] at hx hl ⊢
  have HX := Lib.hid hx
  have HC := Lib.hid hcl
  have HL := Lib.hid hL
  clear hx hcl hL
  go_enter Tryz.func147, Tryz.ntmps147
  go_wp2_with fail
  go_loopw [8] (fun v8 wr => ∃ i : Nat, i ≤ L ∧ v8 = .int .i64 i ∧ In w.heap.size w wr ∧ Hid (xs.any p = (xs.drop i).any p)) (fun v8 _ => L - (RowKit.intOf v8).toNat)
  case atStart => exact ⟨0, Nat.zero_le _, rfl, In.self _, Lib.hid rfl⟩
  case round =>
    obtain ⟨i, hi, rfl, hin, HA⟩ := hrel
    by_cases hiL : i < L
    · obtain ⟨b, off, rfl, hb, hc⟩ := HX.out i hiL
      have hd := drop_getD xs 0 (show i < xs.length by rw [← HL.out]; exact hiL)
      obtain ⟨x, hx⟩ : ∃ x, x = xs.getD i 0 := ⟨_, rfl⟩
      rw [← hx] at hc hd
      rw [← hin.cell b _ hb] at hc
      have hbw : b < wr.heap.size := by have := hin.siz; omega
      have hcon := HC.out x wr hin
      have hiI : (i : Int) < L := by omega
      have hi0 : (0 : Int) ≤ i := by omega
      have hiw : IntKind.i64.wrap ((i : Int) + 1) = ((i + 1 : Nat) : Int) := IntWalk.i64_in _ (by omega)
      have ha := HA.out
      rw [hd, List.any_cons] at ha
      obtain ⟨y, hy⟩ : ∃ y, y = p x := ⟨_, rfl⟩
      rw [← hy] at hcon ha
      have HAA := Lib.hid ha
      clear hd hx hy ha HA
      rcases y with _ | _
      · go_wp2_with fail
        (refine hcon.mono ?_)
        rintro e w2 ⟨rfl, hb2⟩
        have hin2 := hin.call hb2
        clear hb2 hcon hc hbw hin
        go_wp2_with fail
        exact ⟨⟨i + 1, by omega, by go_num, hin2, Lib.hid (by rw [HAA.out, Bool.false_or])⟩, by simp [RowKit.intOf]; omega⟩
      · go_wp2_with fail
        (refine hcon.mono ?_)
        rintro e w2 ⟨rfl, hb2⟩
        have hin2 := hin.call hb2
        clear hb2 hcon hc hbw hin
        go_wp2_with fail
        go_ret
        exact ⟨⟨i, rfl, by rw [HAA.out, Bool.true_or]; exact decide_eq_true hi0⟩, hin2.bel⟩
    · have hiI : ¬ (i : Int) < L := by omega
      have ha := HA.out
      rw [List.drop_eq_nil_of_le (by rw [← HL.out]; omega)] at ha
      have HAA := Lib.hid ha
      clear ha HA
      go_wp2_with fail
      go_ret
      exact ⟨⟨-1, rfl, by rw [HAA.out]; rfl⟩, hin.bel⟩
theorem cont_any (p : Int → Bool) (w : World) (a : Option Addr) (cap : Nat) (xs : List Int) (hx : IntsAt w a xs) (hl : xs.length ≤ 4096) (g : Nat) (cb : Array Value) (eg : ∀ args w, (callFunc g args).run Tryz.prog w = .ok (.enter g args) w)
    (hcl : ∀ x W, In w.heap.size w W → Calls Tryz.prog g (#[.int .i64 (x : Int)] ++ cb) W fun e w' => e = .returned (.bool (p x)) ∧ Below W.heap.size W w') :
    Calls Tryz.prog 89 #[.slice a xs.length cap, .func (.func g) #[] cb] w fun e w' => e = .returned (.bool (xs.any p)) ∧ Below w.heap.size w w' := by
  have h1 := idx_any p w a cap xs hx hl g cb eg hcl
  obtain ⟨y, hy⟩ : ∃ y, y = xs.any p := ⟨_, rfl⟩
  rw [← hy]
  have HY := Lib.hid hy
  clear hy hx hcl
  go_enter Tryz.func89, Tryz.ntmps89
  go_wp2_with fail
  ((with_reducible refine h1.mono ?_))
  rintro e w2 ⟨⟨z, rfl, hz⟩, hb⟩
  rw [← HY.out] at hz
  have HZ := Lib.hid hz
  clear hz h1
  go_wp2_with fail
  go_ret
  exact ⟨(show Ending.returned (.bool (decide (0 ≤ z))) = .returned (.bool y) by rw [HZ.out]), hb⟩
def outI (n : Nat) (x : Int) : Bool := !(decide (0 ≤ x) && decide (x < n))
theorem mhas_any (i n : Int) (w : World) :
    Calls Tryz.prog 94 #[.int .i64 i, .int .i64 n] w fun e w' => e = .returned (.bool (decide (0 ≤ i) && decide (i < n))) ∧ Below w.heap.size w w' := by
  by_cases h1 : 0 ≤ i <;> by_cases h2 : i < n <;> simp only [h1, h2, decide_true, decide_false, Bool.and_true, Bool.and_false]
  all_goals
    go_enter Tryz.func94, Tryz.ntmps94
    go_wp2_with fail
    go_ret
    exact ⟨rfl, by (refine In.bel ?_; (repeat (first | (refine In.setCell ?_ (by first | omega | (simp; done) | (simp; omega)) _) | (refine In.alloc ?_ _) | (refine In.drew ?_))); (first | exact In.self _ | (refine In.out h ?_ (by first | omega | (simp; done) | (simp; omega)); (repeat (first | (refine In.setCell ?_ (by first | omega | (simp; done) | (simp; omega)) _) | (refine In.alloc ?_ _) | (refine In.drew ?_))); exact In.self _)))⟩
end Gus
end
section
/- The closures of both Parts; sparses.Part. -/
namespace Gus
open Go Go.RowKit Go.Proofs
theorem prt1_any (W : World) (b : Nat) (n m : Nat) (sl : Value) (hB : Bx W b 63 [.int .i64 n, .int .i64 m, sl]) (x : Int) :
    Calls Tryz.prog 90 #[.int .i64 x, .pointer (some ⟨b, 0, none⟩)] W fun e w' => e = .returned (.bool (outI n x)) ∧ Below W.heap.size W w' := by
  have h1 := has_any x n
  unfold outI
  obtain ⟨y, hy⟩ : ∃ y, y = (decide (0 ≤ x) && decide (x < (n : Int))) := ⟨_, rfl⟩
  rw [← hy] at h1 ⊢
  have x0 := hB.c0
  have xl := hB.lt
  clear hy hB
  go_enter Tryz.func90, Tryz.ntmps90
  go_wp2_with fail
  ((with_reducible refine (h1 _).mono ?_))
  rintro e w2 ⟨rfl, hb⟩
  clear h1
  go_wp2_with fail
  go_ret
  exact ⟨rfl, hb⟩
theorem prt2_any (W : World) (b : Nat) (n m : Nat) (sl : Value) (hB : Bx W b 63 [.int .i64 n, .int .i64 m, sl]) (x : Int) :
    Calls Tryz.prog 91 #[.int .i64 x, .pointer (some ⟨b, 0, none⟩)] W fun e w' => e = .returned (.bool (outI m x)) ∧ Below W.heap.size W w' := by
  have h1 := has_any x m
  unfold outI
  obtain ⟨y, hy⟩ : ∃ y, y = (decide (0 ≤ x) && decide (x < (m : Int))) := ⟨_, rfl⟩
  rw [← hy] at h1 ⊢
  have x1 := hB.c1
  have xl := hB.lt
  clear hy hB
  go_enter Tryz.func91, Tryz.ntmps91
  go_wp2_with fail
  ((with_reducible refine (h1 _).mono ?_))
  rintro e w2 ⟨rfl, hb⟩
  clear h1
  go_wp2_with fail
  go_ret
  exact ⟨rfl, hb⟩
theorem mprt1_any (W : World) (b : Nat) (n m : Nat) (sl : Value) (hB : Bx W b 78 [.int .i64 n, .int .i64 m, sl]) (x : Int) :
    Calls Tryz.prog 93 #[.int .i64 x, .pointer (some ⟨b, 0, none⟩)] W fun e w' => e = .returned (.bool (outI n x)) ∧ Below W.heap.size W w' := by
  have h1 := mhas_any x n
  unfold outI
  obtain ⟨y, hy⟩ : ∃ y, y = (decide (0 ≤ x) && decide (x < (n : Int))) := ⟨_, rfl⟩
  rw [← hy] at h1 ⊢
  have x0 := hB.c0
  have xl := hB.lt
  clear hy hB
  go_enter Tryz.func93, Tryz.ntmps93
  go_wp2_with fail
  ((with_reducible refine (h1 _).mono ?_))
  rintro e w2 ⟨rfl, hb⟩
  clear h1
  go_wp2_with fail
  go_ret
  exact ⟨rfl, hb⟩
theorem mprt2_any (W : World) (b : Nat) (n m : Nat) (sl : Value) (hB : Bx W b 78 [.int .i64 n, .int .i64 m, sl]) (x : Int) :
    Calls Tryz.prog 95 #[.int .i64 x, .pointer (some ⟨b, 0, none⟩)] W fun e w' => e = .returned (.bool (outI m x)) ∧ Below W.heap.size W w' := by
  have h1 := mhas_any x m
  unfold outI
  obtain ⟨y, hy⟩ : ∃ y, y = (decide (0 ≤ x) && decide (x < (m : Int))) := ⟨_, rfl⟩
  rw [← hy] at h1 ⊢
  have x1 := hB.c1
  have xl := hB.lt
  clear hy hB
  go_enter Tryz.func95, Tryz.ntmps95
  go_wp2_with fail
  ((with_reducible refine (h1 _).mono ?_))
  rintro e w2 ⟨rfl, hb⟩
  clear h1
  go_wp2_with fail
  go_ret
  exact ⟨rfl, hb⟩
theorem not_out {n : Nat} {xs : List Int} (h : xs.any (outI n) = false) {i : Nat} (hi : i < xs.length) : ∃ k : Nat, xs.getD i 0 = k ∧ k < n := by
  have hm : xs.getD i 0 ∈ xs := by
    rw [List.getD_eq_getElem?_getD, List.getElem?_eq_getElem hi]; exact List.getElem_mem hi
  have := List.any_eq_false.1 h _ hm
  unfold outI at this
  simp only [Bool.not_eq_true', Bool.not_eq_false, Bool.and_eq_true, decide_eq_true_eq] at this
  obtain ⟨k, hk⟩ := Int.eq_ofNat_of_zero_le this.1
  exact ⟨k, hk, by omega⟩
/-- the value at a position of a submatrix -/
def partF (f : Nat → Nat → Rat) (xs ys : List Int) (i k : Nat) : Rat := f (xs.getD i 0).toNat (ys.getD k 0).toNat
set_option maxRecDepth 100000 in
set_option maxHeartbeats 4000000 in
theorem spart_bad (w : World) (v : Value) (r c : Nat) (f : Nat → Nat → Rat) (hS : SpM w v r c f) (hr : r ≤ 2048) (hc : c ≤ 2048) (a b : Option Addr) (ca cb : Nat) (xs ys : List Int) (hx : IntsAt w a xs) (hy : IntsAt w b ys) (hlx : xs.length ≤ 2048) (hly : ys.length ≤ 2048) (hbad : (xs.any (outI r) || ys.any (outI c)) = true) :
    Calls Tryz.prog 35 #[v, .slice a xs.length ca, .slice b ys.length cb] w fun e w' => e = .returned (.tuple #[zeroSp, .int .i64 1]) ∧ Below w.heap.size w w' := by
  have hck := fun W (hb : Below w.heap.size w W) => scheck_ok (hS.call hb) hr hc
  obtain ⟨sa, cap, rfl⟩ := hS.shape
  have h2 := sides_any xs.length ys.length
  rw [show sidesE (xs.length : Int) ys.length = 0 by unfold sidesE; rw [if_neg (by omega), if_neg (by omega)]] at h2
  have eg1 : ∀ args w, (callFunc 90 args).run Tryz.prog w = .ok (.enter 90 args) w := enters_of Tryz.func90 (by kernel_rfl) rfl
  have eg2 : ∀ args w, (callFunc 91 args).run Tryz.prog w = .ok (.enter 91 args) w := enters_of Tryz.func91 (by kernel_rfl) rfl
  obtain ⟨X, hX⟩ : ∃ X, X = w.heap.size := ⟨_, rfl⟩
  have HX := Lib.hid hX
  have h3 := fun W (hin : In w.heap.size w W) (bx : Bx W X 63 [.int .i64 r, .int .i64 c, .slice sa r cap]) => cont_any (outI r) W a ca xs (hx.call hin.bel) (by omega) 90 #[.pointer (some ⟨X, 0, none⟩)] eg1 (fun x W' h => prt1_any W' X r c _ (bx.call h.bel) x)
  have h4 := fun W (hin : In w.heap.size w W) (bx : Bx W X 63 [.int .i64 r, .int .i64 c, .slice sa r cap]) => cont_any (outI c) W b cb ys (hy.call hin.bel) (by omega) 91 #[.pointer (some ⟨X, 0, none⟩)] eg2 (fun x W' h => prt2_any W' X r c _ (bx.call h.bel) x)
  obtain ⟨p, hp⟩ : ∃ p, p = xs.any (outI r) := ⟨_, rfl⟩
  obtain ⟨q, hq⟩ : ∃ q, q = ys.any (outI c) := ⟨_, rfl⟩
  rw [← hp, ← hq] at hbad
  rw [← hp] at h3
  rw [← hq] at h4
  obtain ⟨L, hL⟩ : ∃ L, L = xs.length := ⟨_, rfl⟩
  obtain ⟨M, hM⟩ : ∃ M, M = ys.length := ⟨_, rfl⟩
  rw [← hL, ← hM] at h2
  rw [← hL] at h3 hlx ⊢
  rw [← hM] at h4 hly ⊢
  have HB := Lib.hid hbad
  clear hS hx hy hp hq hbad hL hM
  go_enter Tryz.func35, Tryz.ntmps35
  go_wp2_with fail
  ((with_reducible refine (hck _ ?_).mono ?_))
  · exact (((In.self w).alloc _).alloc _).bel
  rintro e w2 ⟨rfl, hb⟩
  have hin := (((In.self w).alloc (.cells #[.int .i64 r, .int .i64 c, .slice sa r cap] 63)).alloc (.cells #[.int .i64 0, .int .i64 0, .slice none 0 0] 63)).call hb
  have bx := ((Bx.new_at w #[.int .i64 r, .int .i64 c, .slice sa r cap] 63 hX).alloc (.cells #[.int .i64 0, .int .i64 0, .slice none 0 0] 63)).call hb
  have bq := (Bx.new_at (w.alloc (.cells #[.int .i64 r, .int .i64 c, .slice sa r cap] 63)) #[.int .i64 0, .int .i64 0, .slice none 0 0] 63 (n := X + 1) (by rw [World.size_alloc, hX])).call hb
  rw [← hX]
  clear hX hb hck
  go_wp2_with fail
  ((with_reducible refine (h2 _).mono ?_))
  rintro e w3 ⟨rfl, hb⟩
  replace hin := hin.call hb
  replace bx := bx.call hb
  replace bq := bq.call hb
  clear hb h2
  go_wp2_with fail
  ((with_reducible refine (h3 _ hin bx).mono ?_))
  rintro e w4 ⟨rfl, hb⟩
  replace hin := hin.call hb
  replace bx := bx.call hb
  replace bq := bq.call hb
  clear hb h3
  rcases p with _ | _
  · have hq : q = true := by have := HB.out; rwa [Bool.false_or] at this
    subst hq
    go_wp2_with fail
    ((with_reducible refine (h4 _ hin bx).mono ?_))
    rintro e w5 ⟨rfl, hb⟩
    replace hin := hin.call hb
    replace bq := bq.call hb
    clear hb h4
    ((have r0 := bq.c0);
              (have r1 := bq.c1);
              (have r2 := bq.c2);
              (have f0 := bq.frozen 0);
              (have f1 := bq.frozen 1);
              (have f2 := bq.frozen 2);
              (have hrl := bq.lt);
              (have H1 := Lib.hid (((bq.set 0 (.int .i64 0)).set 1 (.int .i64 0)).set 2 (.slice none 0 0)));
              (have H2 := Lib.hid (((hin.setCell (p := ⟨(X + 1), 0, none⟩) (by have := HX.out; simp; omega) (.int .i64 0)).setCell (p := ⟨(X + 1), 1, none⟩) (by have := HX.out; simp; omega) (.int .i64 0)).setCell (p := ⟨(X + 1), 2, none⟩) (by have := HX.out; simp; omega) (.slice none 0 0)));
              (clear bq hin bx);
              (go_wp2_with fail);
              (have g1 := H1.out);
              (have g2 := H2.out);
              (clear H1 H2 r0 r1 r2 f0 f1 f2 hrl);
              (generalize ((w5.setCell ⟨(X + 1), 0, none⟩ (.int .i64 0)).setCell ⟨(X + 1), 1, none⟩ (.int .i64 0)).setCell ⟨(X + 1), 2, none⟩ (.slice none 0 0) = W5 at *);
              (have e0 : W5.cell? ⟨(X + 1), 0, none⟩ = some (.int .i64 0) := g1.cell 0);
              (have e1 : W5.cell? ⟨(X + 1), 1, none⟩ = some (.int .i64 0) := g1.cell 1);
              (have e2 : W5.cell? ⟨(X + 1), 2, none⟩ = some (.slice none 0 0) := g1.cell 2);
              (have hz := g2.bel);
              (refine bodyPost_ret (v := .tuple #[zeroSp, .int .i64 1]) ?_ rfl ⟨rfl, hz⟩);
              (simp [results, Tryz.results35, go_sem, e0, e1, e2]))
  · clear h4
    ((have r0 := bq.c0);
              (have r1 := bq.c1);
              (have r2 := bq.c2);
              (have f0 := bq.frozen 0);
              (have f1 := bq.frozen 1);
              (have f2 := bq.frozen 2);
              (have hrl := bq.lt);
              (have H1 := Lib.hid (((bq.set 0 (.int .i64 0)).set 1 (.int .i64 0)).set 2 (.slice none 0 0)));
              (have H2 := Lib.hid (((hin.setCell (p := ⟨(X + 1), 0, none⟩) (by have := HX.out; simp; omega) (.int .i64 0)).setCell (p := ⟨(X + 1), 1, none⟩) (by have := HX.out; simp; omega) (.int .i64 0)).setCell (p := ⟨(X + 1), 2, none⟩) (by have := HX.out; simp; omega) (.slice none 0 0)));
              (clear bq hin bx);
              (go_wp2_with fail);
              (have g1 := H1.out);
              (have g2 := H2.out);
              (clear H1 H2 r0 r1 r2 f0 f1 f2 hrl);
              (generalize ((w4.setCell ⟨(X + 1), 0, none⟩ (.int .i64 0)).setCell ⟨(X + 1), 1, none⟩ (.int .i64 0)).setCell ⟨(X + 1), 2, none⟩ (.slice none 0 0) = W5 at *);
              (have e0 : W5.cell? ⟨(X + 1), 0, none⟩ = some (.int .i64 0) := g1.cell 0);
              (have e1 : W5.cell? ⟨(X + 1), 1, none⟩ = some (.int .i64 0) := g1.cell 1);
              (have e2 : W5.cell? ⟨(X + 1), 2, none⟩ = some (.slice none 0 0) := g1.cell 2);
              (have hz := g2.bel);
              (refine bodyPost_ret (v := .tuple #[zeroSp, .int .i64 1]) ?_ rfl ⟨rfl, hz⟩);
              (simp [results, Tryz.results35, go_sem, e0, e1, e2]))
end Gus
end
section
/- sparses.Part: indices in range. -/
namespace Gus
open Go Go.RowKit Go.Proofs
set_option maxRecDepth 100000 in
set_option maxHeartbeats 4000000 in
theorem spart_ok {j : Nat} (w : World) (v : Value) (r c : Nat) (f : Nat → Nat → Rat) (hS : SpM w v r c f) (hr : r ≤ 2048) (hc : c ≤ 2048) (a b : Option Addr) (ca cb : Nat) (xs ys : List Int) (hx : IntsAt w a xs) (hy : IntsAt w b ys) (hlx : xs.length ≤ 2048) (hly : ys.length ≤ 2048) (hb1 : xs.any (outI r) = false) (hb2 : ys.any (outI c) = false) (hz : ∀ i k, SzK j (f i k)) (hcap : xs.length * ys.length * (j + 1) + 1 < 17592186044416) :
    Calls Tryz.prog 35 #[v, .slice a xs.length ca, .slice b ys.length cb] w fun e w' => (∃ s, e = .returned (.tuple #[s, .int .i64 0]) ∧ SpN w' w.heap.size s xs.length ys.length (partF f xs ys)) ∧ Below w.heap.size w w' := by
  have hck := fun W (hb : Below w.heap.size w W) => scheck_ok (hS.call hb) hr hc
  obtain ⟨sa, cap, rfl⟩ := hS.shape
  have h2 := sides_any xs.length ys.length
  rw [show sidesE (xs.length : Int) ys.length = 0 by unfold sidesE; rw [if_neg (by omega), if_neg (by omega)]] at h2
  have eg1 : ∀ args w, (callFunc 90 args).run Tryz.prog w = .ok (.enter 90 args) w := enters_of Tryz.func90 (by kernel_rfl) rfl
  have eg2 : ∀ args w, (callFunc 91 args).run Tryz.prog w = .ok (.enter 91 args) w := enters_of Tryz.func91 (by kernel_rfl) rfl
  obtain ⟨X, hX⟩ : ∃ X, X = w.heap.size := ⟨_, rfl⟩
  have HX := Lib.hid hX
  have h3 := fun W (hin : In w.heap.size w W) (bx : Bx W X 63 [.int .i64 r, .int .i64 c, .slice sa r cap]) => cont_any (outI r) W a ca xs (hx.call hin.bel) (by omega) 90 #[.pointer (some ⟨X, 0, none⟩)] eg1 (fun x W' h => prt1_any W' X r c _ (bx.call h.bel) x)
  have h4 := fun W (hin : In w.heap.size w W) (bx : Bx W X 63 [.int .i64 r, .int .i64 c, .slice sa r cap]) => cont_any (outI c) W b cb ys (hy.call hin.bel) (by omega) 91 #[.pointer (some ⟨X, 0, none⟩)] eg2 (fun x W' h => prt2_any W' X r c _ (bx.call h.bel) x)
  rw [hb1] at h3
  rw [hb2] at h4
  have hat := fun W i k (hi : i < r) (hk : k < c) (hb : Below w.heap.size w W) => sat_any W _ r c i k f (hS.call hb) hi hk hc
  have HNX := Lib.hid (fun i (hi : i < xs.length) => not_out hb1 hi)
  have HNY := Lib.hid (fun i (hi : i < ys.length) => not_out hb2 hi)
  have HXS := Lib.hid hx
  have HYS := Lib.hid hy
  have HZ := Lib.hid hz
  have HCP := Lib.hid hcap
  obtain ⟨L, hL⟩ : ∃ L, L = xs.length := ⟨_, rfl⟩
  obtain ⟨M, hM⟩ : ∃ M, M = ys.length := ⟨_, rfl⟩
  rw [← hL, ← hM] at h2
  rw [← hL] at h3 hlx ⊢
  rw [← hM] at h4 hly ⊢
  have HL := Lib.hid hL
  have HM := Lib.hid hM
  have hLM : L * M ≤ 4194304 := Nat.mul_le_mul hlx hly
  have HAT := Lib.hid hat
  have h5 := begun_any L M
  clear hS hx hy hb1 hb2 hL hM hz hcap hat
  go_enter Tryz.func35, Tryz.ntmps35
  go_wp2_with fail
  ((with_reducible refine (hck _ ?_).mono ?_))
  · exact (((In.self w).alloc _).alloc _).bel
  rintro e w2 ⟨rfl, hb⟩
  have hin := (((In.self w).alloc (.cells #[.int .i64 r, .int .i64 c, .slice sa r cap] 63)).alloc (.cells #[.int .i64 0, .int .i64 0, .slice none 0 0] 63)).call hb
  have bx := ((Bx.new_at w #[.int .i64 r, .int .i64 c, .slice sa r cap] 63 hX).alloc (.cells #[.int .i64 0, .int .i64 0, .slice none 0 0] 63)).call hb
  have bq := (Bx.new_at (w.alloc (.cells #[.int .i64 r, .int .i64 c, .slice sa r cap] 63)) #[.int .i64 0, .int .i64 0, .slice none 0 0] 63 (n := X + 1) (by rw [World.size_alloc, hX])).call hb
  rw [← hX]
  clear hX hb hck
  go_wp2_with fail
  ((with_reducible refine (h2 _).mono ?_))
  rintro e w3 ⟨rfl, hb⟩
  replace hin := hin.call hb
  replace bx := bx.call hb
  replace bq := bq.call hb
  clear hb h2
  go_wp2_with fail
  ((with_reducible refine (h3 _ hin bx).mono ?_))
  rintro e w4 ⟨rfl, hb⟩
  replace hin := hin.call hb
  replace bx := bx.call hb
  replace bq := bq.call hb
  clear hb h3
  go_wp2_with fail
  ((with_reducible refine (h4 _ hin bx).mono ?_))
  rintro e w5 ⟨rfl, hb⟩
  replace hin := hin.call hb
  replace bx := bx.call hb
  replace bq := bq.call hb
  clear hb h4
  go_wp2_with fail
  ((with_reducible refine (h5 _).mono ?_))
  rintro e w6 ⟨rfl, hB, hb⟩
  obtain ⟨b0, hb0⟩ : ∃ b0, b0 = w5.heap.size := ⟨_, rfl⟩
  have hXb : X + 1 < b0 := by have := bq.lt; omega
  rw [← hb0] at hB ⊢
  replace hin := hin.call hb
  replace bx := bx.call hb
  replace bq := bq.call hb
  clear hb h5 hb0
  obtain ⟨qs, hqs⟩ : ∃ qs, qs = dense L M (partF f xs ys) := ⟨_, rfl⟩
  have HQ := Lib.hid hqs
  clear hqs
  go_wp2_with fail
  go_loopw [46] (fun v46 wr => ∃ i : Nat, i ≤ L ∧ v46 = .int .i64 i ∧ In w.heap.size w wr ∧ Bx wr X 63 [.int .i64 r, .int .i64 c, .slice sa r cap] ∧ Bx wr (X + 1) 63 [.int .i64 0, .int .i64 0, .slice none 0 0] ∧ BB wr (b0 + 1) b0 (i * M) L M (foldA (fun _ _ => 0) (dItm M qs (i * M))) ∧ (∀ x y, SzK (1 + i * M * (j + 1)) (foldA (fun _ _ => 0) (dItm M qs (i * M)) x y))) (fun v46 _ => L - (RowKit.intOf v46).toNat)
  case atStart => exact ⟨0, Nat.zero_le _, rfl, hin, bx, bq, by rw [Nat.zero_mul]; exact hB, fun _ _ => by rw [Nat.zero_mul]; exact (show SzK _ 0 from SzK.zero.mono (Nat.le_add_right 1 _))⟩
  case round =>
    clear hin bx bq hB
    obtain ⟨i, hi, rfl, hin, bx, bq, hB, hsz⟩ := hrel
    by_cases hiL : i < L
    · obtain ⟨xb, xo, hxa, hxb, hxc⟩ := HXS.out i (by rw [← HL.out]; exact hiL)
      obtain ⟨x, hx, hxr⟩ := HNX.out i (by rw [← HL.out]; exact hiL)
      rw [hx] at hxc
      rw [← hin.cell xb _ hxb] at hxc
      have hbw : xb < wr.heap.size := by have := hin.siz; omega
      have hiI : (i : Int) < L := by omega
      have hi0 : (0 : Int) ≤ i := by omega
      have HX2 := Lib.hid hx
      obtain ⟨d, hd⟩ : ∃ d, d = i * M := ⟨_, rfl⟩
      rw [← hd] at hB hsz
      have HD := Lib.hid hd
      subst hxa
      clear hx hd hxb
      go_wp2_with fail
      go_loopw [53] (fun v53 wr => ∃ k : Nat, k ≤ M ∧ v53 = .int .i64 k ∧ In w.heap.size w wr ∧ Bx wr X 63 [.int .i64 r, .int .i64 c, .slice sa r cap] ∧ Bx wr (X + 1) 63 [.int .i64 0, .int .i64 0, .slice none 0 0] ∧ BB wr (b0 + 1) b0 (d + k) L M (foldA (fun _ _ => 0) (dItm M qs (d + k))) ∧ (∀ x y, SzK (1 + (d + k) * (j + 1)) (foldA (fun _ _ => 0) (dItm M qs (d + k)) x y))) (fun v53 _ => M - (RowKit.intOf v53).toNat)
      case atStart => exact ⟨0, Nat.zero_le _, rfl, hin, bx, bq, hB, hsz⟩
      case round =>
        clear hin bx bq hB hsz hxc hbw
        obtain ⟨k, hk, rfl, hin, bx, bq, hB, hsz⟩ := hrel
        by_cases hkM : k < M
        · obtain ⟨yb, yo, hya, hyb, hyc⟩ := HYS.out k (by rw [← HM.out]; exact hkM)
          obtain ⟨y, hy, hyr⟩ := HNY.out k (by rw [← HM.out]; exact hkM)
          rw [hy] at hyc
          rw [← hin.cell yb _ hyb] at hyc
          have hbw : yb < wr.heap.size := by have := hin.siz; omega
          have hkI : (k : Int) < M := by omega
          have hk0 : (0 : Int) ≤ k := by omega
          have hkw : IntKind.i64.wrap ((k : Int) + 1) = ((k + 1 : Nat) : Int) := IntWalk.i64_in _ (by omega)
          subst hya
          have hat := HAT.out wr x y hxr hyr hin.bel
          obtain ⟨q, hq⟩ : ∃ q, q = f x y := ⟨_, rfl⟩
          rw [← hq] at hat
          have hzq : SzK j q := by rw [hq]; exact HZ.out x y
          have hqd : q = qs.getD (d + k) 0 := by
            rw [HQ.out, HD.out, dense_getD _ hiL hkM, hq]
            unfold partF
            rw [HX2.out, hy]; rfl
          have HQD := Lib.hid hqd
          obtain ⟨A1, A2, A3, A4, A5, hA⟩ : ∃ A1 A2 A3 A4 A5, fracV q = .agg #[.int .u64 A1, .string A2, .bool A3, .int .u64 A4, .string A5] := ⟨_, _, _, _, _, rfl⟩
          have x0 := bx.c0
          have x1 := bx.c1
          have x2 := bx.c2
          have xl := bx.lt
          clear hy hq hqd hyb
          go_wp2_with fail
          ((with_reducible refine hat.mono ?_))
          rintro e w7 ⟨rfl, hb⟩
          replace hin := hin.call hb
          replace bx := bx.call hb
          replace bq := bq.call hb
          replace hB := hB.call hb
          have hdM : (d + k + 1) * (j + 1) ≤ L * M * (j + 1) := Nat.mul_le_mul_right _ (by rw [HD.out]; exact pos_lt hiL hkM)
          have hcp := HCP.out
          rw [← HL.out, ← HM.out] at hcp
          have hdk : d + k < 4194304 := by have := pos_lt hiL hkM; rw [← HD.out] at this; omega
          have ha := badd_in (s := 1 + (d + k) * (j + 1)) (j := j) w7 (b0 + 1) b0 (d + k) L M _ i k q hB hiL hkM hlx hly (by simp only [maxLen]; omega) (by omega) (hsz _ _) hzq (by rw [Nat.add_mul, Nat.one_mul] at hdM; omega)
          have e1 : setF (foldA (fun _ _ => 0) (dItm M qs (d + k))) i k (foldA (fun _ _ => 0) (dItm M qs (d + k)) i k + q) = foldA (fun _ _ => 0) (dItm M qs (d + k + 1)) := by
            rw [dItm_succ, foldA_snoc, ← HQD.out, HD.out, (pos_of (i := i) hkM).1, (pos_of (i := i) hkM).2]; rfl
          have hsz2 := SzK_foldA (x := (i, k, q)) hsz hzq
          rw [show addF (foldA (fun _ _ => 0) (dItm M qs (d + k))) (i, k, q) = foldA (fun _ _ => 0) (dItm M qs (d + k + 1)) from e1] at hsz2
          rw [e1] at ha
          have HZ2 := Lib.hid hsz2
          have HCM := Lib.hid hdM
          clear hsz2 e1 hsz hdM hcp hb hat hyc hbw x0 x1 x2 xl hB hA hzq
          go_wp2_with fail
          ((with_reducible refine ha.mono ?_))
          rintro e w8 ⟨rfl, hB2, hg⟩
          have hXb2 := hXb
          have hin4 := hin.grown hg (by have := HX.out; omega)
          have bx4 := bx.grown hg (by simp; omega)
          have bq4 := bq.grown hg (by simp; omega)
          clear ha hg hin bx bq
          go_wp2_with fail
          exact ⟨⟨k + 1, by omega, by go_num, hin4, bx4, bq4, hB2, fun x y => (HZ2.out x y).mono (by rw [show d + (k + 1) = d + k + 1 from rfl, Nat.add_mul (d + k) 1]; omega)⟩, by simp [RowKit.intOf]; omega⟩
        · obtain rfl : k = M := by omega
          have hkI : ¬ (k : Int) < k := by omega
          have hiw : IntKind.i64.wrap ((i : Int) + 1) = ((i + 1 : Nat) : Int) := IntWalk.i64_in _ (by omega)
          have e1 : (i + 1) * k = d + k := by rw [Nat.add_mul, Nat.one_mul, HD.out]
          have HE := Lib.hid e1
          clear e1
          go_wp2_with fail
          exact ⟨⟨i + 1, by omega, by go_num, hin, bx, bq, by rw [HE.out]; exact hB, by rw [HE.out]; exact hsz⟩, by simp [RowKit.intOf]; omega⟩
    · obtain rfl : i = L := by omega
      have hiI : ¬ (i : Int) < i := by omega
      have hsp := bsparse_any wr (b0 + 1) b0 _ i M _ hB hlx hly
      clear hB hsz
      go_wp2_with fail
      ((with_reducible refine hsp.mono ?_))
      rintro e w5 ⟨v5, rfl, hv5, hb5⟩
      have br := bq
      rw [← HX.out] at hin
      have hXw := hin.siz
      clear bq bx
      ((obtain ⟨R, h5⟩ : ∃ R, v5 = .agg #[(.int .i64 ((i : Nat) : Int)), (.int .i64 ((M : Nat) : Int)), (.slice (some ⟨R, 0, none⟩) (i) (i))] := by (obtain ⟨R, _, h, _⟩ := hv5; exact ⟨R, h⟩)); (have br5 := br.call hb5); (have hin5 := hin.call hb5); (have hXl := br.lt); (have hv7 := ((SpOwn.other (a := ⟨(X + 1), 0, none⟩) hv5 hXl (.int .i64 ((i : Nat) : Int))).other (a := ⟨(X + 1), 1, none⟩) hXl (.int .i64 ((M : Nat) : Int))).other (a := ⟨(X + 1), 2, none⟩) hXl (.slice (some ⟨R, 0, none⟩) (i) (i))); (have br6 := ((br5.set 0 (.int .i64 ((i : Nat) : Int))).set 1 (.int .i64 ((M : Nat) : Int))).set 2 (.slice (some ⟨R, 0, none⟩) (i) (i))); (have hin6 := ((hin5.setCell (p := ⟨(X + 1), 0, none⟩) (by simp) (.int .i64 ((i : Nat) : Int))).setCell (p := ⟨(X + 1), 1, none⟩) (by simp) (.int .i64 ((M : Nat) : Int))).setCell (p := ⟨(X + 1), 2, none⟩) (by simp) (.slice (some ⟨R, 0, none⟩) (i) (i))); (have f0 := br5.frozen 0); (have f1 := br5.frozen 1); (have f2 := br5.frozen 2); (have b0 := br5.c0); (have b1 := br5.c1); (have b2 := br5.c2); (have hl5 := br5.lt); (subst h5); (have H1 := Lib.hid hv7); (have H2 := Lib.hid br6); (have H3 := Lib.hid hin6); (clear hv7 br6 hin6 hv5 hb5 br br5 hin hin5); (go_wp2_with fail); (have h1 := H1.out); (have h2 := H2.out); (have h3 := H3.out); (clear H1 H2 H3 f0 f1 f2 b0 b1 b2 hl5); (generalize ((w5.setCell ⟨(X + 1), 0, none⟩ (.int .i64 ((i : Nat) : Int))).setCell ⟨(X + 1), 1, none⟩ (.int .i64 ((M : Nat) : Int))).setCell ⟨(X + 1), 2, none⟩ (.slice (some ⟨R, 0, none⟩) (i) (i)) = W6 at *); (have e0 : W6.cell? ⟨(X + 1), 0, none⟩ = some (.int .i64 ((i : Nat) : Int)) := h2.cell 0); (have e1 : W6.cell? ⟨(X + 1), 1, none⟩ = some (.int .i64 ((M : Nat) : Int)) := h2.cell 1); (have e2 : W6.cell? ⟨(X + 1), 2, none⟩ = some (.slice (some ⟨R, 0, none⟩) (i) (i)) := h2.cell 2); (have hfin := SpOwn.mono h1 (show w.heap.size ≤ (World.heap wr).size by rw [← HX.out]; omega)); (have hbelow : Below w.heap.size w W6 := h3.bel.mono (by have := HX.out; omega)); (refine bodyPost_ret (v := .tuple #[.agg #[(.int .i64 ((i : Nat) : Int)), (.int .i64 ((M : Nat) : Int)), (.slice (some ⟨R, 0, none⟩) (i) (i))], .int .i64 0]) ?_ rfl ⟨⟨_, rfl, SpN.congr (f := foldA (fun _ _ => 0) (dItm M qs (i * M))) hfin (fun a k ha hk => by rw [foldA_at, dItm_at qs ha hk, Rat.zero_add, HQ.out, dense_getD _ ha hk])⟩, hbelow⟩); (simp [results, Tryz.results35, go_sem, e0, e1, e2]))
end Gus
end
section
/- mats.Part. -/
namespace Gus
open Go Go.RowKit Go.Proofs
set_option maxRecDepth 100000 in
set_option maxHeartbeats 2000000 in
theorem mprt3_any (W : World) (bm br bc r c n L M ca cb cap i k x y : Nat) (sa a b : Option Addr) (qs : List Rat) (xs ys : List Int) (hM : Bx W bm 78 [.int .i64 r, .int .i64 c, .slice sa n cap]) (hR : Bx W br 40 [.slice a L ca]) (hC : Bx W bc 40 [.slice b M cb])
    (hm : MatAt W (.agg #[.int .i64 r, .int .i64 c, .slice sa n cap]) r c qs) (hx : IntsAt W a xs) (hy : IntsAt W b ys) (hL : xs.length = L) (hMM : ys.length = M) (hi : i < L) (hk : k < M) (hxi : xs.getD i 0 = x) (hyk : ys.getD k 0 = y) (hxr : x < r) (hyc : y < c) (hr : r ≤ 2048) (hc : c ≤ 2048) :
    Calls Tryz.prog 97 #[.int .i64 i, .int .i64 k, .pointer (some ⟨bm, 0, none⟩), .pointer (some ⟨br, 0, none⟩), .pointer (some ⟨bc, 0, none⟩)] W fun e w' => e = .returned (fracV (qs.getD (x * c + y) 0)) ∧ Below W.heap.size W w' := by
  have hat := fun W2 (hb : Below W.heap.size W W2) => mel_any W2 _ r c x y qs (hm.call hb) hxr hyc hr hc
  obtain ⟨xb, xo, rfl, hxb, hxc⟩ := hx i (by omega)
  obtain ⟨yb, yo, rfl, hyb, hyc2⟩ := hy k (by omega)
  rw [hxi] at hxc
  rw [hyk] at hyc2
  obtain ⟨q, hq⟩ : ∃ q, q = qs.getD (x * c + y) 0 := ⟨_, rfl⟩
  rw [← hq] at hat ⊢
  have hiI : (i : Int) < L := by omega
  have hi0 : (0 : Int) ≤ i := by omega
  have hkI : (k : Int) < M := by omega
  have hk0 : (0 : Int) ≤ k := by omega
  obtain ⟨X, hX⟩ : ∃ X, X = W.heap.size := ⟨_, rfl⟩
  have HX := Lib.hid hX
  have HAT := Lib.hid hat
  clear hq hm hx hy hL hMM hxi hyk hxr hyc hat
  go_enter Tryz.func97, Tryz.ntmps97
  go_upto_region 1 with fail
  obtain ⟨o, ho⟩ : ∃ o : Obj, o = .cells #[.int .u64 0, .string ⟨#[]⟩, .bool false, .int .u64 0, .string ⟨#[]⟩] 56 := ⟨_, rfl⟩
  have bq := Bx.new_at W #[.int .u64 0, .string ⟨#[]⟩, .bool false, .int .u64 0, .string ⟨#[]⟩] 56 hX
  rw [← ho] at bq ⊢
  have hin : In X W (W.alloc o) := by rw [hX]; exact (In.self W).alloc o
  replace hM := hM.alloc o
  replace hR := hR.alloc o
  replace hC := hC.alloc o
  rw [← hX] at hxb hyb
  rw [← hin.cell xb _ hxb] at hxc
  rw [← hin.cell yb _ hyb] at hyc2
  have hxw : xb < (W.alloc o).heap.size := by have := hin.siz; omega
  have hyw : yb < (W.alloc o).heap.size := by have := hin.siz; omega
  rw [← hX]
  clear hX ho
  generalize W.alloc o = W1 at *
  have m0 := hM.c0
  have m1 := hM.c1
  have m2 := hM.c2
  have ml := hM.lt
  have r0 := hR.c0
  have rl := hR.lt
  have c0 := hC.c0
  have cl := hC.lt
  have hat : ∀ W2, In W1.heap.size W1 W2 → Calls Tryz.prog 98 #[.agg #[.int .i64 r, .int .i64 c, .slice sa n cap], .int .i64 x, .int .i64 y] W2 fun e w' => e = .returned (fracV q) ∧ Below W2.heap.size W2 w' := fun W2 h => HAT.out W2 (by rw [← HX.out]; exact (hin.call h.bel).bel)
  clear hM hR hC hxb hyb
  have h := In.self W1
  have hcc := hc
  have hc := h.cell
  refine wp_region_flow 10 (by kernel_rfl) (by kernel_rfl) (fun _ _ d _ _ h => by cases d <;> exact h) ?_; simp only [List.take_succ_cons, List.take_zero, List.drop_succ_cons, List.drop_zero]; simp only [putAll, Act.put, List.setIfInBounds_toArray, List.set]; (try simp only [Nat.reduceAdd]); (try simp only [Nat.zero_add]); (repeat (first | ((with_reducible refine flow_float (v := ?_) ?_ ?_ ?_); rotate_left 1; (focus (with_reducible rfl)); (focus (intro u w1 hw hd w2; (try simp only [depH] at hd); (try simp only [ext] at hd); (try simp only [Nat.reduceAdd] at hd); (try simp only [Nat.reduceEqDiff] at hd); (try simp only [reduceIte] at hd); (try simp only [if_true] at hd); (try simp only [if_false] at hd); (try simp only [and_true] at hd); (try simp only [true_and] at hd); go_simp; exact rfl))) | ((with_reducible refine flow_pure0 (v := ?_) ?_ ?_ ?_ ?_); rotate_left 1; (focus (with_reducible rfl)); (focus rfl); (focus (intro u w1 hw hd; (try simp only [depH] at hd); (try simp only [ext] at hd); (try simp only [Nat.reduceAdd] at hd); (try simp only [Nat.reduceEqDiff] at hd); (try simp only [reduceIte] at hd); (try simp only [if_true] at hd); (try simp only [if_false] at hd); (try simp only [and_true] at hd); (try simp only [true_and] at hd); have hc' := hw.cell; go_simp; exact rfl))) | ((with_reducible refine flow_skipg (j := ?_) (b := ?_) ?_ ?_ ?_); rotate_left 2; (focus (with_reducible rfl)); (focus (intro u w1 hw hd; (try simp only [depH] at hd); (try simp only [ext] at hd); (try simp only [Nat.reduceAdd] at hd); (try simp only [Nat.reduceEqDiff] at hd); (try simp only [reduceIte] at hd); (try simp only [if_true] at hd); (try simp only [if_false] at hd); (try simp only [and_true] at hd); (try simp only [true_and] at hd); simp [yielded, hd]; done))) | ((with_reducible refine flow_pureg (v := ?_) (j := ?_) (b := ?_) ?_ ?_ ?_ ?_); rotate_left 3; (focus (with_reducible rfl)); (focus (intro u w1 hw hd; (try simp only [depH] at hd); (try simp only [ext] at hd); (try simp only [Nat.reduceAdd] at hd); (try simp only [Nat.reduceEqDiff] at hd); (try simp only [reduceIte] at hd); (try simp only [if_true] at hd); (try simp only [if_false] at hd); (try simp only [and_true] at hd); (try simp only [true_and] at hd); simp [yielded, hd]; done)); (focus (intro u w1 hw hd; (try simp only [depH] at hd); (try simp only [ext] at hd); (try simp only [Nat.reduceAdd] at hd); (try simp only [Nat.reduceEqDiff] at hd); (try simp only [reduceIte] at hd); (try simp only [if_true] at hd); (try simp only [if_false] at hd); (try simp only [and_true] at hd); (try simp only [true_and] at hd); have hc' := hw.cell; go_simp; exact rfl))) | ((with_reducible refine flow_alloc (t := ?_) (zs := ?_) ?_ ?_ ?_ ?_); rotate_left 2; (focus (with_reducible rfl)); (focus rfl); (focus (intro u w1; go_simp; exact rfl))) | ((with_reducible refine flow_pure0 (v := ?_) ?_ ?_ ?_ ?_); rotate_left 1; (focus (with_reducible rfl)); (focus rfl); (focus (intro u w1 hw hd; (try simp only [depH] at hd); (try simp only [ext] at hd); (try simp only [Nat.reduceAdd] at hd); (try simp only [Nat.reduceEqDiff] at hd); (try simp only [reduceIte] at hd); (try simp only [if_true] at hd); (try simp only [if_false] at hd); (try simp only [and_true] at hd); (try simp only [true_and] at hd); have hc' := hw.cell; go_simp; go_at_call 98; ((with_reducible refine (hat _ hw.ins).mono ?_)); rintro e w'' ⟨rfl, hb⟩; refine ⟨?_, hb⟩; exact rfl))) | ((with_reducible refine flow_pureg (v := ?_) (j := ?_) (b := ?_) ?_ ?_ ?_ ?_); rotate_left 3; (focus (with_reducible rfl)); (focus (intro u w1 hw hd; (try simp only [depH] at hd); (try simp only [ext] at hd); (try simp only [Nat.reduceAdd] at hd); (try simp only [Nat.reduceEqDiff] at hd); (try simp only [reduceIte] at hd); (try simp only [if_true] at hd); (try simp only [if_false] at hd); (try simp only [and_true] at hd); (try simp only [true_and] at hd); simp [yielded, hd]; done)); (focus (intro u w1 hw hd; (try simp only [depH] at hd); (try simp only [ext] at hd); (try simp only [Nat.reduceAdd] at hd); (try simp only [Nat.reduceEqDiff] at hd); (try simp only [reduceIte] at hd); (try simp only [if_true] at hd); (try simp only [if_false] at hd); (try simp only [and_true] at hd); (try simp only [true_and] at hd); have hc' := hw.cell; go_simp; go_at_call 98; ((with_reducible refine (hat _ hw.ins).mono ?_)); rintro e w'' ⟨rfl, hb⟩; refine ⟨?_, hb⟩; exact rfl)))))
  (try clear hc hf h); intro u w' h ha hdi; replace h := h.ins; (try simp only [World.size_alloc] at h); (try dsimp only at ha); (repeat rw [World.size_alloc] at ha); (try simp only [allH] at ha); (try simp only [ext] at ha); (try simp only [Nat.reduceAdd] at ha); (try simp only [Nat.reduceEqDiff] at ha); (try simp only [reduceIte] at ha); (try simp only [if_true] at ha); (try simp only [if_false] at ha); (try simp only [and_true] at ha); (try simp only [true_and] at ha); have hc := h.cell; have hf := h.frozen
  (try obtain ha := ha); (try dsimp only);  simp only [ha]; clear ha hdi 
  replace hin := hin.call h.bel
  replace bq := bq.call h.bel
  clear h hc hf hxc hyc2 hxw hyw m0 m1 m2 ml r0 rl c0 cl hat
  ((obtain ⟨A1, A2, A3, A4, A5, hA⟩ : ∃ A1 A2 A3 A4 A5, fracV q = .agg #[.int .u64 A1, .string A2, .bool A3, .int .u64 A4, .string A5] := ⟨_, _, _, _, _, rfl⟩);
              ((try rw [hA]));
              (have HA := Lib.hid hA);
              (clear hA);
              (have q0 := bq.c0);
              (have q1 := bq.c1);
              (have q2 := bq.c2);
              (have q3 := bq.c3);
              (have q4 := bq.c4);
              (have f0 := bq.frozen 0);
              (have f1 := bq.frozen 1);
              (have f2 := bq.frozen 2);
              (have f3 := bq.frozen 3);
              (have f4 := bq.frozen 4);
              (have ql := bq.lt);
              (have K1 := Lib.hid ((((((bq.set 0 (.int .u64 A1)).set 1 (.string A2)).set 2 (.bool A3)).set 3 (.int .u64 A4)).set 4 (.string A5))));
              (have K2 := Lib.hid ((((((hin.setCell (p := ⟨X, 0, none⟩) (by first | (simp; done) | (have := HX.out; simp; omega)) (.int .u64 A1)).setCell (p := ⟨X, 1, none⟩) (by first | (simp; done) | (have := HX.out; simp; omega)) (.string A2)).setCell (p := ⟨X, 2, none⟩) (by first | (simp; done) | (have := HX.out; simp; omega)) (.bool A3)).setCell (p := ⟨X, 3, none⟩) (by first | (simp; done) | (have := HX.out; simp; omega)) (.int .u64 A4)).setCell (p := ⟨X, 4, none⟩) (by first | (simp; done) | (have := HX.out; simp; omega)) (.string A5))));
              (clear bq hin);
              (go_wp2_with fail);
              (have k1 := K1.out);
              (have k2 := K2.out);
              (clear q0 q1 q2 q3 q4 f0 f1 f2 f3 f4 ql K1 K2);
              (generalize (((((w'.setCell ⟨X, 0, none⟩ (.int .u64 A1)).setCell ⟨X, 1, none⟩ (.string A2)).setCell ⟨X, 2, none⟩ (.bool A3)).setCell ⟨X, 3, none⟩ (.int .u64 A4)).setCell ⟨X, 4, none⟩ (.string A5)) = W5 at *);
              (have e0 : W5.cell? ⟨X, 0, none⟩ = some (.int .u64 A1) := k1.cell 0);
              (have e1 : W5.cell? ⟨X, 1, none⟩ = some (.string A2) := k1.cell 1);
              (have e2 : W5.cell? ⟨X, 2, none⟩ = some (.bool A3) := k1.cell 2);
              (have e3 : W5.cell? ⟨X, 3, none⟩ = some (.int .u64 A4) := k1.cell 3);
              (have e4 : W5.cell? ⟨X, 4, none⟩ = some (.string A5) := k1.cell 4);
              (have hz := k2.bel);
              (have hA := HA.out);
              (refine bodyPost_ret (v := .agg #[.int .u64 A1, .string A2, .bool A3, .int .u64 A4, .string A5]) ?_ rfl ⟨by rw [hA], by rw [← HX.out]; exact hz⟩);
              (simp [results, Tryz.results97, go_sem, e0, e1, e2, e3, e4]))
def MPart (w : World) (r c : Nat) (qs : List Rat) (xs ys : List Int) (e : Ending) (w' : World) : Prop :=
  (((xs.any (outI r) || ys.any (outI c)) = true ∧ e = .returned (.tuple #[zeroSp, .int .i64 1])) ∨ ((xs.any (outI r) || ys.any (outI c)) = false ∧ ∃ d, e = .returned (.tuple #[d, .int .i64 0]) ∧ MatAt w' d xs.length ys.length (dense xs.length ys.length (partF (mvals c qs) xs ys)))) ∧ Below w.heap.size w w'
set_option maxRecDepth 100000 in
set_option maxHeartbeats 4000000 in
theorem mpart_any (w : World) (v : Value) (r c : Nat) (qs : List Rat) (hS : MatAt w v r c qs) (hr : r ≤ 2048) (hc : c ≤ 2048) (a b : Option Addr) (ca cb : Nat) (xs ys : List Int) (hx : IntsAt w a xs) (hy : IntsAt w b ys) (hlx : xs.length ≤ 2048) (hly : ys.length ≤ 2048) :
    Calls Tryz.prog 36 #[v, .slice a xs.length ca, .slice b ys.length cb] w (MPart w r c qs xs ys) := by
  have hck := fun W (sa : Option Addr) (k : Nat) => mcheck_any r c sa qs.length k W
  obtain ⟨sx, rfl, hql, hvx⟩ := hS
  have hS : MatAt w (.agg #[.int .i64 r, .int .i64 c, sx]) r c qs := ⟨_, rfl, hql, hvx⟩
  obtain ⟨sa, cap, rfl⟩ := hvx.shape
  rw [show checkM (r : Int) c qs.length = 0 by rw [hql]; exact checkM_ok hr hc] at hck
  have h2 := msides_any xs.length ys.length
  rw [show sidesE (xs.length : Int) ys.length = 0 by unfold sidesE; rw [if_neg (by omega), if_neg (by omega)]] at h2
  have eg1 : ∀ args w, (callFunc 93 args).run Tryz.prog w = .ok (.enter 93 args) w := enters_of Tryz.func93 (by kernel_rfl) rfl
  have eg2 : ∀ args w, (callFunc 95 args).run Tryz.prog w = .ok (.enter 95 args) w := enters_of Tryz.func95 (by kernel_rfl) rfl
  obtain ⟨X, hX⟩ : ∃ X, X = w.heap.size := ⟨_, rfl⟩
  have HX := Lib.hid hX
  have h3 := fun W (hin : In w.heap.size w W) (bx : Bx W X 78 [.int .i64 r, .int .i64 c, .slice sa qs.length cap]) => cont_any (outI r) W a ca xs (hx.call hin.bel) (by omega) 93 #[.pointer (some ⟨X, 0, none⟩)] eg1 (fun x W' h => mprt1_any W' X r c _ (bx.call h.bel) x)
  have h4 := fun W (hin : In w.heap.size w W) (bx : Bx W X 78 [.int .i64 r, .int .i64 c, .slice sa qs.length cap]) => cont_any (outI c) W b cb ys (hy.call hin.bel) (by omega) 95 #[.pointer (some ⟨X, 0, none⟩)] eg2 (fun x W' h => mprt2_any W' X r c _ (bx.call h.bel) x)
  obtain ⟨p, hp⟩ : ∃ p, p = xs.any (outI r) := ⟨_, rfl⟩
  obtain ⟨q, hq⟩ : ∃ q, q = ys.any (outI c) := ⟨_, rfl⟩
  rw [← hp] at h3
  rw [← hq] at h4
  have HP := Lib.hid hp
  have HQ := Lib.hid hq
  obtain ⟨L, hL⟩ : ∃ L, L = xs.length := ⟨_, rfl⟩
  obtain ⟨M, hM⟩ : ∃ M, M = ys.length := ⟨_, rfl⟩
  obtain ⟨N, hN⟩ : ∃ N, N = qs.length := ⟨_, rfl⟩
  rw [← hL, ← hM] at h2
  rw [← hL] at h3 hlx ⊢
  rw [← hM] at h4 hly ⊢
  rw [← hN] at hck h3 h4 hS ⊢
  have eg3 : ∀ args w, (callFunc 97 args).run Tryz.prog w = .ok (.enter 97 args) w := enters_of Tryz.func97 (by kernel_rfl) rfl
  have HL := Lib.hid hL
  have HM := Lib.hid hM
  have HS := Lib.hid hS
  have HXS := Lib.hid hx
  have HYS := Lib.hid hy
  clear hS hx hy hp hq hL hM hN hvx hql
  go_enter Tryz.func36, Tryz.ntmps36
  go_wp2_with fail
  ((with_reducible refine (hck _ _ _).mono ?_))
  rintro e w2 ⟨rfl, hb⟩
  have hin := (((((In.self w).alloc (.cells #[.int .i64 r, .int .i64 c, .slice sa N cap] 78)).alloc (.cells #[.slice a L ca] 40)).alloc (.cells #[.slice b M cb] 40)).alloc (.cells #[.int .i64 0, .int .i64 0, .slice none 0 0] 78)).call hb
  have bx := ((((Bx.new_at w #[.int .i64 r, .int .i64 c, .slice sa N cap] 78 hX).alloc (.cells #[.slice a L ca] 40)).alloc (.cells #[.slice b M cb] 40)).alloc (.cells #[.int .i64 0, .int .i64 0, .slice none 0 0] 78)).call hb
  have b1 := (((Bx.new_at (w.alloc (.cells #[.int .i64 r, .int .i64 c, .slice sa N cap] 78)) #[.slice a L ca] 40 (n := X + 1) (by rw [World.size_alloc, hX])).alloc (.cells #[.slice b M cb] 40)).alloc (.cells #[.int .i64 0, .int .i64 0, .slice none 0 0] 78)).call hb
  have b2 := ((Bx.new_at ((w.alloc (.cells #[.int .i64 r, .int .i64 c, .slice sa N cap] 78)).alloc (.cells #[.slice a L ca] 40)) #[.slice b M cb] 40 (n := X + 1 + 1) (by rw [World.size_alloc, World.size_alloc, hX])).alloc (.cells #[.int .i64 0, .int .i64 0, .slice none 0 0] 78)).call hb
  have bq := (Bx.new_at (((w.alloc (.cells #[.int .i64 r, .int .i64 c, .slice sa N cap] 78)).alloc (.cells #[.slice a L ca] 40)).alloc (.cells #[.slice b M cb] 40)) #[.int .i64 0, .int .i64 0, .slice none 0 0] 78 (n := X + 1 + 1 + 1) (by rw [World.size_alloc, World.size_alloc, World.size_alloc, hX])).call hb
  rw [← hX]
  clear hX hb hck
  have x0 := b1.c0
  have xl := b1.lt
  have y0 := b2.c0
  have yl := b2.lt
  go_wp2_with fail
  ((with_reducible refine (h2 _).mono ?_))
  rintro e w3 ⟨rfl, hb⟩
  replace hin := hin.call hb
  replace bx := bx.call hb
  replace b1 := b1.call hb
  replace b2 := b2.call hb
  replace bq := bq.call hb
  clear hb h2 x0 xl y0 yl
  have x0 := b1.c0
  have xl := b1.lt
  have y0 := b2.c0
  have yl := b2.lt
  go_wp2_with fail
  ((with_reducible refine (h3 _ hin bx).mono ?_))
  rintro e w4 ⟨rfl, hb⟩
  replace hin := hin.call hb
  replace bx := bx.call hb
  replace b1 := b1.call hb
  replace b2 := b2.call hb
  replace bq := bq.call hb
  clear hb h3 x0 xl y0 yl
  have y0 := b2.c0
  have yl := b2.lt
  rcases p with _ | _
  · go_wp2_with fail
    ((with_reducible refine (h4 _ hin bx).mono ?_))
    rintro e w5 ⟨rfl, hb⟩
    replace hin := hin.call hb
    replace bx := bx.call hb
    replace b1 := b1.call hb
    replace b2 := b2.call hb
    replace bq := bq.call hb
    clear hb h4 y0 yl
    rcases q with _ | _
    · have x0 := b1.c0
      have xl := b1.lt
      have y0 := b2.c0
      have yl := b2.lt
      have hmk := make_any (partF (mvals c qs) xs ys) w5 L M 97 #[.pointer (some ⟨X, 0, none⟩), .pointer (some ⟨X + 1, 0, none⟩), .pointer (some ⟨X + 1 + 1, 0, none⟩)] eg3 hlx hly (fun i k W hi hk h => by
        obtain ⟨x, hx, hxr⟩ := not_out HP.out.symm (i := i) (by rw [← HL.out]; exact hi)
        obtain ⟨y, hy, hyc⟩ := not_out HQ.out.symm (i := k) (by rw [← HM.out]; exact hk)
        have := mprt3_any W X (X + 1) (X + 1 + 1) r c N L M ca cb cap i k x y sa a b qs xs ys (bx.call h.bel) (b1.call h.bel) (b2.call h.bel) (HS.out.call (hin.call h.bel).bel) (HXS.out.call (hin.call h.bel).bel) (HYS.out.call (hin.call h.bel).bel) HL.out.symm HM.out.symm hi hk hx hy hxr hyc hr hc
        rw [show partF (mvals c qs) xs ys i k = qs.getD (x * c + y) 0 by unfold partF mvals; rw [hx, hy]; rfl]
        exact this)
      go_wp2_with fail
      ((with_reducible refine hmk.mono ?_))
      rintro e w6 ⟨⟨d, rfl, hd⟩, hb⟩
      replace hin := hin.call hb
      replace bq := bq.call hb
      obtain ⟨ad, kd, rfl⟩ := hd.shape
      rw [dense_length] at hd ⊢
      obtain ⟨n, hn⟩ : ∃ n, n = L * M := ⟨_, rfl⟩
      rw [← hn] at hd ⊢
      clear hb hmk x0 xl y0 yl hn bx b1 b2
      ((have K5 := Lib.hid (hd.put3 (p' := ((L : Nat) : Int)) (q' := ((M : Nat) : Int)) (ao' := ad) (n' := n) (k' := kd) bq));
              (have r0 := bq.c0);
              (have r1 := bq.c1);
              (have r2 := bq.c2);
              (have f0 := bq.frozen 0);
              (have f1 := bq.frozen 1);
              (have f2 := bq.frozen 2);
              (have ql := bq.lt);
              (have K1 := Lib.hid (((bq.set 0 (.int .i64 ((L : Nat) : Int))).set 1 (.int .i64 ((M : Nat) : Int))).set 2 (.slice ad n kd)));
              (have K2 := Lib.hid (((hin.setCell (p := ⟨(X + 1 + 1 + 1), 0, none⟩) (by have := HX.out; simp; omega) (.int .i64 ((L : Nat) : Int))).setCell (p := ⟨(X + 1 + 1 + 1), 1, none⟩) (by have := HX.out; simp; omega) (.int .i64 ((M : Nat) : Int))).setCell (p := ⟨(X + 1 + 1 + 1), 2, none⟩) (by have := HX.out; simp; omega) (.slice ad n kd)));
              (clear bq hin hd);
              (go_wp2_with fail);
              (have k1 := K1.out);
              (have k2 := K2.out);
              (have hm := K5.out);
              (clear r0 r1 r2 f0 f1 f2 ql K1 K2 K5);
              (generalize (((w6.setCell ⟨(X + 1 + 1 + 1), 0, none⟩ (.int .i64 ((L : Nat) : Int))).setCell ⟨(X + 1 + 1 + 1), 1, none⟩ (.int .i64 ((M : Nat) : Int))).setCell ⟨(X + 1 + 1 + 1), 2, none⟩ (.slice ad n kd)) = W9 at *);
              (have e0 : W9.cell? ⟨(X + 1 + 1 + 1), 0, none⟩ = some (.int .i64 ((L : Nat) : Int)) := k1.cell 0);
              (have e1 : W9.cell? ⟨(X + 1 + 1 + 1), 1, none⟩ = some (.int .i64 ((M : Nat) : Int)) := k1.cell 1);
              (have e2 : W9.cell? ⟨(X + 1 + 1 + 1), 2, none⟩ = some (.slice ad n kd) := k1.cell 2);
              (have hz := k2.bel);
              (refine bodyPost_ret (v := .tuple #[.agg #[.int .i64 ((L : Nat) : Int), .int .i64 ((M : Nat) : Int), .slice ad n kd], .int .i64 0]) ?_ rfl ⟨.inr ⟨by rw [← HP.out, ← HQ.out]; rfl, _, rfl, by rw [← HL.out, ← HM.out]; exact hm⟩, hz⟩);
              (simp [results, Tryz.results36, go_sem, e0, e1, e2]))
    · ((have r0 := bq.c0);
              (have r1 := bq.c1);
              (have r2 := bq.c2);
              (have f0 := bq.frozen 0);
              (have f1 := bq.frozen 1);
              (have f2 := bq.frozen 2);
              (have hrl := bq.lt);
              (have H1 := Lib.hid (((bq.set 0 (.int .i64 0)).set 1 (.int .i64 0)).set 2 (.slice none 0 0)));
              (have H2 := Lib.hid (((hin.setCell (p := ⟨(X + 1 + 1 + 1), 0, none⟩) (by have := HX.out; simp; omega) (.int .i64 0)).setCell (p := ⟨(X + 1 + 1 + 1), 1, none⟩) (by have := HX.out; simp; omega) (.int .i64 0)).setCell (p := ⟨(X + 1 + 1 + 1), 2, none⟩) (by have := HX.out; simp; omega) (.slice none 0 0)));
              (clear bq hin bx);
              (go_wp2_with fail);
              (have g1 := H1.out);
              (have g2 := H2.out);
              (clear H1 H2 r0 r1 r2 f0 f1 f2 hrl);
              (generalize ((w5.setCell ⟨(X + 1 + 1 + 1), 0, none⟩ (.int .i64 0)).setCell ⟨(X + 1 + 1 + 1), 1, none⟩ (.int .i64 0)).setCell ⟨(X + 1 + 1 + 1), 2, none⟩ (.slice none 0 0) = W5 at *);
              (have e0 : W5.cell? ⟨(X + 1 + 1 + 1), 0, none⟩ = some (.int .i64 0) := g1.cell 0);
              (have e1 : W5.cell? ⟨(X + 1 + 1 + 1), 1, none⟩ = some (.int .i64 0) := g1.cell 1);
              (have e2 : W5.cell? ⟨(X + 1 + 1 + 1), 2, none⟩ = some (.slice none 0 0) := g1.cell 2);
              (have hz := g2.bel);
              (refine bodyPost_ret (v := .tuple #[zeroSp, .int .i64 1]) ?_ rfl ⟨.inl ⟨by rw [← HQ.out, Bool.or_true], rfl⟩, hz⟩);
              (simp [results, Tryz.results36, go_sem, e0, e1, e2]))
  · clear h4
    ((have r0 := bq.c0);
              (have r1 := bq.c1);
              (have r2 := bq.c2);
              (have f0 := bq.frozen 0);
              (have f1 := bq.frozen 1);
              (have f2 := bq.frozen 2);
              (have hrl := bq.lt);
              (have H1 := Lib.hid (((bq.set 0 (.int .i64 0)).set 1 (.int .i64 0)).set 2 (.slice none 0 0)));
              (have H2 := Lib.hid (((hin.setCell (p := ⟨(X + 1 + 1 + 1), 0, none⟩) (by have := HX.out; simp; omega) (.int .i64 0)).setCell (p := ⟨(X + 1 + 1 + 1), 1, none⟩) (by have := HX.out; simp; omega) (.int .i64 0)).setCell (p := ⟨(X + 1 + 1 + 1), 2, none⟩) (by have := HX.out; simp; omega) (.slice none 0 0)));
              (clear bq hin bx);
              (go_wp2_with fail);
              (have g1 := H1.out);
              (have g2 := H2.out);
              (clear H1 H2 r0 r1 r2 f0 f1 f2 hrl);
              (generalize ((w4.setCell ⟨(X + 1 + 1 + 1), 0, none⟩ (.int .i64 0)).setCell ⟨(X + 1 + 1 + 1), 1, none⟩ (.int .i64 0)).setCell ⟨(X + 1 + 1 + 1), 2, none⟩ (.slice none 0 0) = W5 at *);
              (have e0 : W5.cell? ⟨(X + 1 + 1 + 1), 0, none⟩ = some (.int .i64 0) := g1.cell 0);
              (have e1 : W5.cell? ⟨(X + 1 + 1 + 1), 1, none⟩ = some (.int .i64 0) := g1.cell 1);
              (have e2 : W5.cell? ⟨(X + 1 + 1 + 1), 2, none⟩ = some (.slice none 0 0) := g1.cell 2);
              (have hz := g2.bel);
              (refine bodyPost_ret (v := .tuple #[zeroSp, .int .i64 1]) ?_ rfl ⟨.inl ⟨by rw [← HP.out, Bool.true_or], rfl⟩, hz⟩);
              (simp [results, Tryz.results36, go_sem, e0, e1, e2]))
end Gus
end
section
/- sparses.At, mats.At. -/
namespace Gus
open Go Go.RowKit Go.Proofs
abbrev zeroFr : Value := .agg #[.int .u64 0, .string ⟨#[]⟩, .bool false, .int .u64 0, .string ⟨#[]⟩]
/-- the value at a position, if there is one -/
def atV (r c : Nat) (f : Nat → Nat → Rat) (i k : Int) : Value × Bool := if outI r i || outI c k then (zeroFr, false) else (fracV (f i.toNat k.toNat), true)
set_option maxRecDepth 100000 in
set_option maxHeartbeats 2000000 in
theorem satt_any (w : World) (v : Value) (r c : Nat) (f : Nat → Nat → Rat) (hS : SpM w v r c f) (hr : r ≤ 2048) (hc : c ≤ 2048) (i k : Int) :
    Calls Tryz.prog 37 #[v, .int .i64 i, .int .i64 k] w fun e w' => e = .returned (.tuple #[(atV r c f i k).1, .bool (atV r c f i k).2]) ∧ Below w.heap.size w w' := by
  have hck := fun W (hb : Below w.heap.size w W) => scheck_ok (hS.call hb) hr hc
  have h1 := has_any i r
  have h2 := has_any k c
  have h3 := fun W x y (hx : x < r) (hy : y < c) (hb : Below w.heap.size w W) => sat_any W v r c x y f (hS.call hb) hx hy hc
  obtain ⟨sa, cap, rfl⟩ := hS.shape
  obtain ⟨p, hp⟩ : ∃ p, p = outI r i := ⟨_, rfl⟩
  obtain ⟨q, hq⟩ : ∃ q, q = outI c k := ⟨_, rfl⟩
  have hp2 : (decide (0 ≤ i) && decide (i < (r : Int))) = !p := by rw [hp]; unfold outI; rw [Bool.not_not]
  have hq2 : (decide (0 ≤ k) && decide (k < (c : Int))) = !q := by rw [hq]; unfold outI; rw [Bool.not_not]
  rw [hp2] at h1
  rw [hq2] at h2
  unfold atV
  rw [← hp, ← hq]
  obtain ⟨X, hX⟩ : ∃ X, X = w.heap.size := ⟨_, rfl⟩
  have HX := Lib.hid hX
  have HP := Lib.hid hp
  have HQ := Lib.hid hq
  have H3 := Lib.hid h3
  clear hS hp hq hp2 hq2 h3
  rcases p with _ | _
  · rcases q with _ | _
    · obtain ⟨x, rfl, hx⟩ : ∃ x : Nat, i = x ∧ x < r := by
        have := HP.out
        unfold outI at this
        simp only [Bool.false_eq, Bool.not_eq_false', Bool.and_eq_true, decide_eq_true_eq] at this
        obtain ⟨x, hx⟩ := Int.eq_ofNat_of_zero_le this.1
        exact ⟨x, hx, by omega⟩
      obtain ⟨y, rfl, hy⟩ : ∃ y : Nat, k = y ∧ y < c := by
        have := HQ.out
        unfold outI at this
        simp only [Bool.false_eq, Bool.not_eq_false', Bool.and_eq_true, decide_eq_true_eq] at this
        obtain ⟨y, hy⟩ := Int.eq_ofNat_of_zero_le this.1
        exact ⟨y, hy, by omega⟩
      have h3 := fun W hb => H3.out W x y hx hy hb
      simp only [Bool.not_false, Bool.or_false, Bool.false_eq_true, if_false, Int.toNat_natCast] at h1 h2 ⊢
      obtain ⟨q, hq⟩ : ∃ q, q = f x y := ⟨_, rfl⟩
      rw [← hq] at h3 ⊢
      clear hq
      go_enter Tryz.func37, Tryz.ntmps37
      go_wp2_with fail
      ((with_reducible refine (hck _ ?_).mono ?_))
      · exact (((In.self w).alloc _).alloc _).bel
      rintro e w2 ⟨rfl, hb⟩
      have hin := (((In.self w).alloc (.cells #[.int .i64 r, .int .i64 c, .slice sa r cap] 63)).alloc (.cells #[.int .u64 0, .string ⟨#[]⟩, .bool false, .int .u64 0, .string ⟨#[]⟩] 56)).call hb
      have bx := ((Bx.new_at w #[.int .i64 r, .int .i64 c, .slice sa r cap] 63 hX).alloc (.cells #[.int .u64 0, .string ⟨#[]⟩, .bool false, .int .u64 0, .string ⟨#[]⟩] 56)).call hb
      have bq := (Bx.new_at (w.alloc (.cells #[.int .i64 r, .int .i64 c, .slice sa r cap] 63)) #[.int .u64 0, .string ⟨#[]⟩, .bool false, .int .u64 0, .string ⟨#[]⟩] 56 (n := X + 1) (by rw [World.size_alloc, hX])).call hb
      rw [← hX]
      clear hX hb hck
      have x0 := bx.c0
      have x1 := bx.c1
      have xl := bx.lt
      go_wp2_with fail
      ((with_reducible refine (h1 _).mono ?_))
      rintro e w3 ⟨rfl, hb⟩
      replace hin := hin.call hb
      replace bx := bx.call hb
      replace bq := bq.call hb
      clear hb h1 x0 x1 xl
      have x0 := bx.c0
      have x1 := bx.c1
      have xl := bx.lt
      go_wp2_with fail
      ((with_reducible refine (h2 _).mono ?_))
      rintro e w4 ⟨rfl, hb⟩
      replace hin := hin.call hb
      replace bx := bx.call hb
      replace bq := bq.call hb
      clear hb h2 x0 x1 xl
      have x0 := bx.c0
      have x1 := bx.c1
      have x2 := bx.c2
      have xl := bx.lt
      go_wp2_with fail
      ((with_reducible refine (h3 _ hin.bel).mono ?_))
      rintro e w5 ⟨rfl, hb⟩
      replace hin := hin.call hb
      replace bq := bq.call hb
      clear hb h3 x0 x1 x2 xl bx
      ((obtain ⟨A1, A2, A3, A4, A5, hA⟩ : ∃ A1 A2 A3 A4 A5, fracV q = .agg #[.int .u64 A1, .string A2, .bool A3, .int .u64 A4, .string A5] := ⟨_, _, _, _, _, rfl⟩);
              ((try rw [hA]));
              (have HA := Lib.hid hA);
              (clear hA);
              (have q0 := bq.c0);
              (have q1 := bq.c1);
              (have q2 := bq.c2);
              (have q3 := bq.c3);
              (have q4 := bq.c4);
              (have f0 := bq.frozen 0);
              (have f1 := bq.frozen 1);
              (have f2 := bq.frozen 2);
              (have f3 := bq.frozen 3);
              (have f4 := bq.frozen 4);
              (have ql := bq.lt);
              (have K1 := Lib.hid ((((((bq.set 0 (.int .u64 A1)).set 1 (.string A2)).set 2 (.bool A3)).set 3 (.int .u64 A4)).set 4 (.string A5))));
              (have K2 := Lib.hid ((((((hin.setCell (p := ⟨(X + 1), 0, none⟩) (by first | (simp; done) | (have := HX.out; simp; omega)) (.int .u64 A1)).setCell (p := ⟨(X + 1), 1, none⟩) (by first | (simp; done) | (have := HX.out; simp; omega)) (.string A2)).setCell (p := ⟨(X + 1), 2, none⟩) (by first | (simp; done) | (have := HX.out; simp; omega)) (.bool A3)).setCell (p := ⟨(X + 1), 3, none⟩) (by first | (simp; done) | (have := HX.out; simp; omega)) (.int .u64 A4)).setCell (p := ⟨(X + 1), 4, none⟩) (by first | (simp; done) | (have := HX.out; simp; omega)) (.string A5))));
              (clear bq hin);
              (go_wp2_with fail);
              (have k1 := K1.out);
              (have k2 := K2.out);
              (clear q0 q1 q2 q3 q4 f0 f1 f2 f3 f4 ql K1 K2);
              (generalize (((((w5.setCell ⟨(X + 1), 0, none⟩ (.int .u64 A1)).setCell ⟨(X + 1), 1, none⟩ (.string A2)).setCell ⟨(X + 1), 2, none⟩ (.bool A3)).setCell ⟨(X + 1), 3, none⟩ (.int .u64 A4)).setCell ⟨(X + 1), 4, none⟩ (.string A5)) = W5 at *);
              (have e0 : W5.cell? ⟨(X + 1), 0, none⟩ = some (.int .u64 A1) := k1.cell 0);
              (have e1 : W5.cell? ⟨(X + 1), 1, none⟩ = some (.string A2) := k1.cell 1);
              (have e2 : W5.cell? ⟨(X + 1), 2, none⟩ = some (.bool A3) := k1.cell 2);
              (have e3 : W5.cell? ⟨(X + 1), 3, none⟩ = some (.int .u64 A4) := k1.cell 3);
              (have e4 : W5.cell? ⟨(X + 1), 4, none⟩ = some (.string A5) := k1.cell 4);
              (have hz := k2.bel);
              (have hA := HA.out);
              (refine bodyPost_ret (v := .tuple #[.agg #[.int .u64 A1, .string A2, .bool A3, .int .u64 A4, .string A5], .bool true]) ?_ rfl ⟨by rw [hA], hz⟩);
              (simp [results, Tryz.results37, go_sem, e0, e1, e2, e3, e4]))
    · simp only [Bool.not_false, Bool.not_true, Bool.or_true, if_true] at h1 h2 ⊢
      go_enter Tryz.func37, Tryz.ntmps37
      go_wp2_with fail
      ((with_reducible refine (hck _ ?_).mono ?_))
      · exact (((In.self w).alloc _).alloc _).bel
      rintro e w2 ⟨rfl, hb⟩
      have hin := (((In.self w).alloc (.cells #[.int .i64 r, .int .i64 c, .slice sa r cap] 63)).alloc (.cells #[.int .u64 0, .string ⟨#[]⟩, .bool false, .int .u64 0, .string ⟨#[]⟩] 56)).call hb
      have bx := ((Bx.new_at w #[.int .i64 r, .int .i64 c, .slice sa r cap] 63 hX).alloc (.cells #[.int .u64 0, .string ⟨#[]⟩, .bool false, .int .u64 0, .string ⟨#[]⟩] 56)).call hb
      have bq := (Bx.new_at (w.alloc (.cells #[.int .i64 r, .int .i64 c, .slice sa r cap] 63)) #[.int .u64 0, .string ⟨#[]⟩, .bool false, .int .u64 0, .string ⟨#[]⟩] 56 (n := X + 1) (by rw [World.size_alloc, hX])).call hb
      rw [← hX]
      clear hX hb hck
      have x0 := bx.c0
      have x1 := bx.c1
      have xl := bx.lt
      go_wp2_with fail
      ((with_reducible refine (h1 _).mono ?_))
      rintro e w3 ⟨rfl, hb⟩
      replace hin := hin.call hb
      replace bx := bx.call hb
      replace bq := bq.call hb
      clear hb h1 x0 x1 xl
      have x0 := bx.c0
      have x1 := bx.c1
      have xl := bx.lt
      go_wp2_with fail
      ((with_reducible refine (h2 _).mono ?_))
      rintro e w4 ⟨rfl, hb⟩
      replace hin := hin.call hb
      replace bx := bx.call hb
      replace bq := bq.call hb
      clear hb h2 x0 x1 xl
      clear bx
      ((have q0 := bq.c0);
              (have q1 := bq.c1);
              (have q2 := bq.c2);
              (have q3 := bq.c3);
              (have q4 := bq.c4);
              (have f0 := bq.frozen 0);
              (have f1 := bq.frozen 1);
              (have f2 := bq.frozen 2);
              (have f3 := bq.frozen 3);
              (have f4 := bq.frozen 4);
              (have ql := bq.lt);
              (have K1 := Lib.hid ((((((bq.set 0 (.int .u64 0)).set 1 (.string ⟨#[]⟩)).set 2 (.bool false)).set 3 (.int .u64 0)).set 4 (.string ⟨#[]⟩))));
              (have K2 := Lib.hid ((((((hin.setCell (p := ⟨(X + 1), 0, none⟩) (by have := HX.out; simp; omega) (.int .u64 0)).setCell (p := ⟨(X + 1), 1, none⟩) (by have := HX.out; simp; omega) (.string ⟨#[]⟩)).setCell (p := ⟨(X + 1), 2, none⟩) (by have := HX.out; simp; omega) (.bool false)).setCell (p := ⟨(X + 1), 3, none⟩) (by have := HX.out; simp; omega) (.int .u64 0)).setCell (p := ⟨(X + 1), 4, none⟩) (by have := HX.out; simp; omega) (.string ⟨#[]⟩))));
              (clear bq hin);
              (go_wp2_with fail);
              (have k1 := K1.out);
              (have k2 := K2.out);
              (clear q0 q1 q2 q3 q4 f0 f1 f2 f3 f4 ql K1 K2);
              (generalize (((((w4.setCell ⟨(X + 1), 0, none⟩ (.int .u64 0)).setCell ⟨(X + 1), 1, none⟩ (.string ⟨#[]⟩)).setCell ⟨(X + 1), 2, none⟩ (.bool false)).setCell ⟨(X + 1), 3, none⟩ (.int .u64 0)).setCell ⟨(X + 1), 4, none⟩ (.string ⟨#[]⟩)) = W5 at *);
              (have e0 : W5.cell? ⟨(X + 1), 0, none⟩ = some (.int .u64 0) := k1.cell 0);
              (have e1 : W5.cell? ⟨(X + 1), 1, none⟩ = some (.string ⟨#[]⟩) := k1.cell 1);
              (have e2 : W5.cell? ⟨(X + 1), 2, none⟩ = some (.bool false) := k1.cell 2);
              (have e3 : W5.cell? ⟨(X + 1), 3, none⟩ = some (.int .u64 0) := k1.cell 3);
              (have e4 : W5.cell? ⟨(X + 1), 4, none⟩ = some (.string ⟨#[]⟩) := k1.cell 4);
              (have hz := k2.bel);
              (refine bodyPost_ret (v := .tuple #[.agg #[.int .u64 0, .string ⟨#[]⟩, .bool false, .int .u64 0, .string ⟨#[]⟩], .bool false]) ?_ rfl ⟨rfl, hz⟩);
              (simp [results, Tryz.results37, go_sem, e0, e1, e2, e3, e4]))
  · simp only [Bool.not_true, Bool.true_or, if_true] at h1 ⊢
    go_enter Tryz.func37, Tryz.ntmps37
    go_wp2_with fail
    ((with_reducible refine (hck _ ?_).mono ?_))
    · exact (((In.self w).alloc _).alloc _).bel
    rintro e w2 ⟨rfl, hb⟩
    have hin := (((In.self w).alloc (.cells #[.int .i64 r, .int .i64 c, .slice sa r cap] 63)).alloc (.cells #[.int .u64 0, .string ⟨#[]⟩, .bool false, .int .u64 0, .string ⟨#[]⟩] 56)).call hb
    have bx := ((Bx.new_at w #[.int .i64 r, .int .i64 c, .slice sa r cap] 63 hX).alloc (.cells #[.int .u64 0, .string ⟨#[]⟩, .bool false, .int .u64 0, .string ⟨#[]⟩] 56)).call hb
    have bq := (Bx.new_at (w.alloc (.cells #[.int .i64 r, .int .i64 c, .slice sa r cap] 63)) #[.int .u64 0, .string ⟨#[]⟩, .bool false, .int .u64 0, .string ⟨#[]⟩] 56 (n := X + 1) (by rw [World.size_alloc, hX])).call hb
    rw [← hX]
    clear hX hb hck
    have x0 := bx.c0
    have x1 := bx.c1
    have xl := bx.lt
    go_wp2_with fail
    ((with_reducible refine (h1 _).mono ?_))
    rintro e w3 ⟨rfl, hb⟩
    replace hin := hin.call hb
    replace bx := bx.call hb
    replace bq := bq.call hb
    clear hb h1 x0 x1 xl
    clear bx h2
    ((have q0 := bq.c0);
              (have q1 := bq.c1);
              (have q2 := bq.c2);
              (have q3 := bq.c3);
              (have q4 := bq.c4);
              (have f0 := bq.frozen 0);
              (have f1 := bq.frozen 1);
              (have f2 := bq.frozen 2);
              (have f3 := bq.frozen 3);
              (have f4 := bq.frozen 4);
              (have ql := bq.lt);
              (have K1 := Lib.hid ((((((bq.set 0 (.int .u64 0)).set 1 (.string ⟨#[]⟩)).set 2 (.bool false)).set 3 (.int .u64 0)).set 4 (.string ⟨#[]⟩))));
              (have K2 := Lib.hid ((((((hin.setCell (p := ⟨(X + 1), 0, none⟩) (by have := HX.out; simp; omega) (.int .u64 0)).setCell (p := ⟨(X + 1), 1, none⟩) (by have := HX.out; simp; omega) (.string ⟨#[]⟩)).setCell (p := ⟨(X + 1), 2, none⟩) (by have := HX.out; simp; omega) (.bool false)).setCell (p := ⟨(X + 1), 3, none⟩) (by have := HX.out; simp; omega) (.int .u64 0)).setCell (p := ⟨(X + 1), 4, none⟩) (by have := HX.out; simp; omega) (.string ⟨#[]⟩))));
              (clear bq hin);
              (go_wp2_with fail);
              (have k1 := K1.out);
              (have k2 := K2.out);
              (clear q0 q1 q2 q3 q4 f0 f1 f2 f3 f4 ql K1 K2);
              (generalize (((((w3.setCell ⟨(X + 1), 0, none⟩ (.int .u64 0)).setCell ⟨(X + 1), 1, none⟩ (.string ⟨#[]⟩)).setCell ⟨(X + 1), 2, none⟩ (.bool false)).setCell ⟨(X + 1), 3, none⟩ (.int .u64 0)).setCell ⟨(X + 1), 4, none⟩ (.string ⟨#[]⟩)) = W5 at *);
              (have e0 : W5.cell? ⟨(X + 1), 0, none⟩ = some (.int .u64 0) := k1.cell 0);
              (have e1 : W5.cell? ⟨(X + 1), 1, none⟩ = some (.string ⟨#[]⟩) := k1.cell 1);
              (have e2 : W5.cell? ⟨(X + 1), 2, none⟩ = some (.bool false) := k1.cell 2);
              (have e3 : W5.cell? ⟨(X + 1), 3, none⟩ = some (.int .u64 0) := k1.cell 3);
              (have e4 : W5.cell? ⟨(X + 1), 4, none⟩ = some (.string ⟨#[]⟩) := k1.cell 4);
              (have hz := k2.bel);
              (refine bodyPost_ret (v := .tuple #[.agg #[.int .u64 0, .string ⟨#[]⟩, .bool false, .int .u64 0, .string ⟨#[]⟩], .bool false]) ?_ rfl ⟨rfl, hz⟩);
              (simp [results, Tryz.results37, go_sem, e0, e1, e2, e3, e4]))
theorem MatAt.len2 {w : World} {v : Value} {r c : Nat} {qs : List Rat} (h : MatAt w v r c qs) : qs.length = r * c := let ⟨_, _, h, _⟩ := h; h
set_option maxRecDepth 100000 in
set_option maxHeartbeats 2000000 in
theorem matt_any (w : World) (v : Value) (r c : Nat) (qs : List Rat) (hS : MatAt w v r c qs) (hr : r ≤ 2048) (hc : c ≤ 2048) (i k : Int) :
    Calls Tryz.prog 38 #[v, .int .i64 i, .int .i64 k] w fun e w' => e = .returned (.tuple #[(atV r c (mvals c qs) i k).1, .bool (atV r c (mvals c qs) i k).2]) ∧ Below w.heap.size w w' := by
  have hck := fun W (sa : Option Addr) (k : Nat) => mcheck_any r c sa qs.length k W
  have hql := hS.len2
  rw [show checkM (r : Int) c qs.length = 0 by rw [hql]; exact checkM_ok hr hc] at hck
  have h1 := mhas_any i r
  have h2 := mhas_any k c
  have h3 := fun W x y (hx : x < r) (hy : y < c) (hb : Below w.heap.size w W) => mel_any W v r c x y qs (hS.call hb) hx hy hr hc
  obtain ⟨sa, cap, rfl⟩ := hS.shape
  obtain ⟨N, hN⟩ : ∃ N, N = qs.length := ⟨_, rfl⟩
  rw [← hN] at hck h3 ⊢
  clear hN hql
  obtain ⟨p, hp⟩ : ∃ p, p = outI r i := ⟨_, rfl⟩
  obtain ⟨q, hq⟩ : ∃ q, q = outI c k := ⟨_, rfl⟩
  have hp2 : (decide (0 ≤ i) && decide (i < (r : Int))) = !p := by rw [hp]; unfold outI; rw [Bool.not_not]
  have hq2 : (decide (0 ≤ k) && decide (k < (c : Int))) = !q := by rw [hq]; unfold outI; rw [Bool.not_not]
  rw [hp2] at h1
  rw [hq2] at h2
  unfold atV
  rw [← hp, ← hq]
  obtain ⟨X, hX⟩ : ∃ X, X = w.heap.size := ⟨_, rfl⟩
  have HX := Lib.hid hX
  have HP := Lib.hid hp
  have HQ := Lib.hid hq
  have H3 := Lib.hid h3
  clear hS hp hq hp2 hq2 h3
  rcases p with _ | _
  · rcases q with _ | _
    · obtain ⟨x, rfl, hx⟩ : ∃ x : Nat, i = x ∧ x < r := by
        have := HP.out
        unfold outI at this
        simp only [Bool.false_eq, Bool.not_eq_false', Bool.and_eq_true, decide_eq_true_eq] at this
        obtain ⟨x, hx⟩ := Int.eq_ofNat_of_zero_le this.1
        exact ⟨x, hx, by omega⟩
      obtain ⟨y, rfl, hy⟩ : ∃ y : Nat, k = y ∧ y < c := by
        have := HQ.out
        unfold outI at this
        simp only [Bool.false_eq, Bool.not_eq_false', Bool.and_eq_true, decide_eq_true_eq] at this
        obtain ⟨y, hy⟩ := Int.eq_ofNat_of_zero_le this.1
        exact ⟨y, hy, by omega⟩
      have h3 := fun W hb => H3.out W x y hx hy hb
      simp only [Bool.not_false, Bool.or_false, Bool.false_eq_true, if_false, Int.toNat_natCast] at h1 h2 ⊢
      obtain ⟨q, hq⟩ : ∃ q, q = qs.getD (x * c + y) 0 := ⟨_, rfl⟩
      rw [show mvals c qs x y = qs.getD (x * c + y) 0 from rfl]
      rw [← hq] at h3 ⊢
      clear hq
      go_enter Tryz.func38, Tryz.ntmps38
      go_wp2_with fail
      ((with_reducible refine (hck _ _ _).mono ?_))
      rintro e w2 ⟨rfl, hb⟩
      have hin := (((In.self w).alloc (.cells #[.int .i64 r, .int .i64 c, .slice sa N cap] 78)).alloc (.cells #[.int .u64 0, .string ⟨#[]⟩, .bool false, .int .u64 0, .string ⟨#[]⟩] 56)).call hb
      have bx := ((Bx.new_at w #[.int .i64 r, .int .i64 c, .slice sa N cap] 78 hX).alloc (.cells #[.int .u64 0, .string ⟨#[]⟩, .bool false, .int .u64 0, .string ⟨#[]⟩] 56)).call hb
      have bq := (Bx.new_at (w.alloc (.cells #[.int .i64 r, .int .i64 c, .slice sa N cap] 78)) #[.int .u64 0, .string ⟨#[]⟩, .bool false, .int .u64 0, .string ⟨#[]⟩] 56 (n := X + 1) (by rw [World.size_alloc, hX])).call hb
      rw [← hX]
      clear hX hb hck
      have x0 := bx.c0
      have x1 := bx.c1
      have xl := bx.lt
      go_wp2_with fail
      ((with_reducible refine (h1 _).mono ?_))
      rintro e w3 ⟨rfl, hb⟩
      replace hin := hin.call hb
      replace bx := bx.call hb
      replace bq := bq.call hb
      clear hb h1 x0 x1 xl
      have x0 := bx.c0
      have x1 := bx.c1
      have xl := bx.lt
      go_wp2_with fail
      ((with_reducible refine (h2 _).mono ?_))
      rintro e w4 ⟨rfl, hb⟩
      replace hin := hin.call hb
      replace bx := bx.call hb
      replace bq := bq.call hb
      clear hb h2 x0 x1 xl
      have x0 := bx.c0
      have x1 := bx.c1
      have x2 := bx.c2
      have xl := bx.lt
      go_wp2_with fail
      ((with_reducible refine (h3 _ hin.bel).mono ?_))
      rintro e w5 ⟨rfl, hb⟩
      replace hin := hin.call hb
      replace bq := bq.call hb
      clear hb h3 x0 x1 x2 xl bx
      ((obtain ⟨A1, A2, A3, A4, A5, hA⟩ : ∃ A1 A2 A3 A4 A5, fracV q = .agg #[.int .u64 A1, .string A2, .bool A3, .int .u64 A4, .string A5] := ⟨_, _, _, _, _, rfl⟩);
              ((try rw [hA]));
              (have HA := Lib.hid hA);
              (clear hA);
              (have q0 := bq.c0);
              (have q1 := bq.c1);
              (have q2 := bq.c2);
              (have q3 := bq.c3);
              (have q4 := bq.c4);
              (have f0 := bq.frozen 0);
              (have f1 := bq.frozen 1);
              (have f2 := bq.frozen 2);
              (have f3 := bq.frozen 3);
              (have f4 := bq.frozen 4);
              (have ql := bq.lt);
              (have K1 := Lib.hid ((((((bq.set 0 (.int .u64 A1)).set 1 (.string A2)).set 2 (.bool A3)).set 3 (.int .u64 A4)).set 4 (.string A5))));
              (have K2 := Lib.hid ((((((hin.setCell (p := ⟨(X + 1), 0, none⟩) (by first | (simp; done) | (have := HX.out; simp; omega)) (.int .u64 A1)).setCell (p := ⟨(X + 1), 1, none⟩) (by first | (simp; done) | (have := HX.out; simp; omega)) (.string A2)).setCell (p := ⟨(X + 1), 2, none⟩) (by first | (simp; done) | (have := HX.out; simp; omega)) (.bool A3)).setCell (p := ⟨(X + 1), 3, none⟩) (by first | (simp; done) | (have := HX.out; simp; omega)) (.int .u64 A4)).setCell (p := ⟨(X + 1), 4, none⟩) (by first | (simp; done) | (have := HX.out; simp; omega)) (.string A5))));
              (clear bq hin);
              (go_wp2_with fail);
              (have k1 := K1.out);
              (have k2 := K2.out);
              (clear q0 q1 q2 q3 q4 f0 f1 f2 f3 f4 ql K1 K2);
              (generalize (((((w5.setCell ⟨(X + 1), 0, none⟩ (.int .u64 A1)).setCell ⟨(X + 1), 1, none⟩ (.string A2)).setCell ⟨(X + 1), 2, none⟩ (.bool A3)).setCell ⟨(X + 1), 3, none⟩ (.int .u64 A4)).setCell ⟨(X + 1), 4, none⟩ (.string A5)) = W5 at *);
              (have e0 : W5.cell? ⟨(X + 1), 0, none⟩ = some (.int .u64 A1) := k1.cell 0);
              (have e1 : W5.cell? ⟨(X + 1), 1, none⟩ = some (.string A2) := k1.cell 1);
              (have e2 : W5.cell? ⟨(X + 1), 2, none⟩ = some (.bool A3) := k1.cell 2);
              (have e3 : W5.cell? ⟨(X + 1), 3, none⟩ = some (.int .u64 A4) := k1.cell 3);
              (have e4 : W5.cell? ⟨(X + 1), 4, none⟩ = some (.string A5) := k1.cell 4);
              (have hz := k2.bel);
              (have hA := HA.out);
              (refine bodyPost_ret (v := .tuple #[.agg #[.int .u64 A1, .string A2, .bool A3, .int .u64 A4, .string A5], .bool true]) ?_ rfl ⟨by rw [hA], hz⟩);
              (simp [results, Tryz.results38, go_sem, e0, e1, e2, e3, e4]))
    · simp only [Bool.not_false, Bool.not_true, Bool.or_true, if_true] at h1 h2 ⊢
      go_enter Tryz.func38, Tryz.ntmps38
      go_wp2_with fail
      ((with_reducible refine (hck _ _ _).mono ?_))
      rintro e w2 ⟨rfl, hb⟩
      have hin := (((In.self w).alloc (.cells #[.int .i64 r, .int .i64 c, .slice sa N cap] 78)).alloc (.cells #[.int .u64 0, .string ⟨#[]⟩, .bool false, .int .u64 0, .string ⟨#[]⟩] 56)).call hb
      have bx := ((Bx.new_at w #[.int .i64 r, .int .i64 c, .slice sa N cap] 78 hX).alloc (.cells #[.int .u64 0, .string ⟨#[]⟩, .bool false, .int .u64 0, .string ⟨#[]⟩] 56)).call hb
      have bq := (Bx.new_at (w.alloc (.cells #[.int .i64 r, .int .i64 c, .slice sa N cap] 78)) #[.int .u64 0, .string ⟨#[]⟩, .bool false, .int .u64 0, .string ⟨#[]⟩] 56 (n := X + 1) (by rw [World.size_alloc, hX])).call hb
      rw [← hX]
      clear hX hb hck
      have x0 := bx.c0
      have x1 := bx.c1
      have xl := bx.lt
      go_wp2_with fail
      ((with_reducible refine (h1 _).mono ?_))
      rintro e w3 ⟨rfl, hb⟩
      replace hin := hin.call hb
      replace bx := bx.call hb
      replace bq := bq.call hb
      clear hb h1 x0 x1 xl
      have x0 := bx.c0
      have x1 := bx.c1
      have xl := bx.lt
      go_wp2_with fail
      ((with_reducible refine (h2 _).mono ?_))
      rintro e w4 ⟨rfl, hb⟩
      replace hin := hin.call hb
      replace bx := bx.call hb
      replace bq := bq.call hb
      clear hb h2 x0 x1 xl
      clear bx
      ((have q0 := bq.c0);
              (have q1 := bq.c1);
              (have q2 := bq.c2);
              (have q3 := bq.c3);
              (have q4 := bq.c4);
              (have f0 := bq.frozen 0);
              (have f1 := bq.frozen 1);
              (have f2 := bq.frozen 2);
              (have f3 := bq.frozen 3);
              (have f4 := bq.frozen 4);
              (have ql := bq.lt);
              (have K1 := Lib.hid ((((((bq.set 0 (.int .u64 0)).set 1 (.string ⟨#[]⟩)).set 2 (.bool false)).set 3 (.int .u64 0)).set 4 (.string ⟨#[]⟩))));
              (have K2 := Lib.hid ((((((hin.setCell (p := ⟨(X + 1), 0, none⟩) (by have := HX.out; simp; omega) (.int .u64 0)).setCell (p := ⟨(X + 1), 1, none⟩) (by have := HX.out; simp; omega) (.string ⟨#[]⟩)).setCell (p := ⟨(X + 1), 2, none⟩) (by have := HX.out; simp; omega) (.bool false)).setCell (p := ⟨(X + 1), 3, none⟩) (by have := HX.out; simp; omega) (.int .u64 0)).setCell (p := ⟨(X + 1), 4, none⟩) (by have := HX.out; simp; omega) (.string ⟨#[]⟩))));
              (clear bq hin);
              (go_wp2_with fail);
              (have k1 := K1.out);
              (have k2 := K2.out);
              (clear q0 q1 q2 q3 q4 f0 f1 f2 f3 f4 ql K1 K2);
              (generalize (((((w4.setCell ⟨(X + 1), 0, none⟩ (.int .u64 0)).setCell ⟨(X + 1), 1, none⟩ (.string ⟨#[]⟩)).setCell ⟨(X + 1), 2, none⟩ (.bool false)).setCell ⟨(X + 1), 3, none⟩ (.int .u64 0)).setCell ⟨(X + 1), 4, none⟩ (.string ⟨#[]⟩)) = W5 at *);
              (have e0 : W5.cell? ⟨(X + 1), 0, none⟩ = some (.int .u64 0) := k1.cell 0);
              (have e1 : W5.cell? ⟨(X + 1), 1, none⟩ = some (.string ⟨#[]⟩) := k1.cell 1);
              (have e2 : W5.cell? ⟨(X + 1), 2, none⟩ = some (.bool false) := k1.cell 2);
              (have e3 : W5.cell? ⟨(X + 1), 3, none⟩ = some (.int .u64 0) := k1.cell 3);
              (have e4 : W5.cell? ⟨(X + 1), 4, none⟩ = some (.string ⟨#[]⟩) := k1.cell 4);
              (have hz := k2.bel);
              (refine bodyPost_ret (v := .tuple #[.agg #[.int .u64 0, .string ⟨#[]⟩, .bool false, .int .u64 0, .string ⟨#[]⟩], .bool false]) ?_ rfl ⟨rfl, hz⟩);
              (simp [results, Tryz.results38, go_sem, e0, e1, e2, e3, e4]))
  · simp only [Bool.not_true, Bool.true_or, if_true] at h1 ⊢
    go_enter Tryz.func38, Tryz.ntmps38
    go_wp2_with fail
    ((with_reducible refine (hck _ _ _).mono ?_))
    rintro e w2 ⟨rfl, hb⟩
    have hin := (((In.self w).alloc (.cells #[.int .i64 r, .int .i64 c, .slice sa N cap] 78)).alloc (.cells #[.int .u64 0, .string ⟨#[]⟩, .bool false, .int .u64 0, .string ⟨#[]⟩] 56)).call hb
    have bx := ((Bx.new_at w #[.int .i64 r, .int .i64 c, .slice sa N cap] 78 hX).alloc (.cells #[.int .u64 0, .string ⟨#[]⟩, .bool false, .int .u64 0, .string ⟨#[]⟩] 56)).call hb
    have bq := (Bx.new_at (w.alloc (.cells #[.int .i64 r, .int .i64 c, .slice sa N cap] 78)) #[.int .u64 0, .string ⟨#[]⟩, .bool false, .int .u64 0, .string ⟨#[]⟩] 56 (n := X + 1) (by rw [World.size_alloc, hX])).call hb
    rw [← hX]
    clear hX hb hck
    have x0 := bx.c0
    have x1 := bx.c1
    have xl := bx.lt
    go_wp2_with fail
    ((with_reducible refine (h1 _).mono ?_))
    rintro e w3 ⟨rfl, hb⟩
    replace hin := hin.call hb
    replace bx := bx.call hb
    replace bq := bq.call hb
    clear hb h1 x0 x1 xl
    clear bx h2
    ((have q0 := bq.c0);
              (have q1 := bq.c1);
              (have q2 := bq.c2);
              (have q3 := bq.c3);
              (have q4 := bq.c4);
              (have f0 := bq.frozen 0);
              (have f1 := bq.frozen 1);
              (have f2 := bq.frozen 2);
              (have f3 := bq.frozen 3);
              (have f4 := bq.frozen 4);
              (have ql := bq.lt);
              (have K1 := Lib.hid ((((((bq.set 0 (.int .u64 0)).set 1 (.string ⟨#[]⟩)).set 2 (.bool false)).set 3 (.int .u64 0)).set 4 (.string ⟨#[]⟩))));
              (have K2 := Lib.hid ((((((hin.setCell (p := ⟨(X + 1), 0, none⟩) (by have := HX.out; simp; omega) (.int .u64 0)).setCell (p := ⟨(X + 1), 1, none⟩) (by have := HX.out; simp; omega) (.string ⟨#[]⟩)).setCell (p := ⟨(X + 1), 2, none⟩) (by have := HX.out; simp; omega) (.bool false)).setCell (p := ⟨(X + 1), 3, none⟩) (by have := HX.out; simp; omega) (.int .u64 0)).setCell (p := ⟨(X + 1), 4, none⟩) (by have := HX.out; simp; omega) (.string ⟨#[]⟩))));
              (clear bq hin);
              (go_wp2_with fail);
              (have k1 := K1.out);
              (have k2 := K2.out);
              (clear q0 q1 q2 q3 q4 f0 f1 f2 f3 f4 ql K1 K2);
              (generalize (((((w3.setCell ⟨(X + 1), 0, none⟩ (.int .u64 0)).setCell ⟨(X + 1), 1, none⟩ (.string ⟨#[]⟩)).setCell ⟨(X + 1), 2, none⟩ (.bool false)).setCell ⟨(X + 1), 3, none⟩ (.int .u64 0)).setCell ⟨(X + 1), 4, none⟩ (.string ⟨#[]⟩)) = W5 at *);
              (have e0 : W5.cell? ⟨(X + 1), 0, none⟩ = some (.int .u64 0) := k1.cell 0);
              (have e1 : W5.cell? ⟨(X + 1), 1, none⟩ = some (.string ⟨#[]⟩) := k1.cell 1);
              (have e2 : W5.cell? ⟨(X + 1), 2, none⟩ = some (.bool false) := k1.cell 2);
              (have e3 : W5.cell? ⟨(X + 1), 3, none⟩ = some (.int .u64 0) := k1.cell 3);
              (have e4 : W5.cell? ⟨(X + 1), 4, none⟩ = some (.string ⟨#[]⟩) := k1.cell 4);
              (have hz := k2.bel);
              (refine bodyPost_ret (v := .tuple #[.agg #[.int .u64 0, .string ⟨#[]⟩, .bool false, .int .u64 0, .string ⟨#[]⟩], .bool false]) ?_ rfl ⟨rfl, hz⟩);
              (simp [results, Tryz.results38, go_sem, e0, e1, e2, e3, e4]))
end Gus
end
section
/- sparses.Diag. -/
namespace Gus
open Go Go.RowKit Go.Proofs
set_option maxRecDepth 100000 in
set_option maxHeartbeats 4000000 in
theorem sdiag_any (w : World) (v : Value) (r c : Nat) (f : Nat → Nat → Rat) (hS : SpM w v r c f) (hr : r ≤ 2048) (hc : c ≤ 2048) :
    Calls Tryz.prog 39 #[v] w fun e w' => (∃ d, e = .returned (.tuple #[d, .int .i64 0]) ∧ VecAt w' d ((List.range (min r c)).map fun i => f i i)) ∧ Below w.heap.size w w' := by
  have hck := fun W (hb : Below w.heap.size w W) => scheck_ok (hS.call hb) hr hc
  have h3 := fun W x (hx : x < r) (hy : x < c) (hb : Below w.heap.size w W) => sat_any W v r c x x f (hS.call hb) hx hy hc
  obtain ⟨sa, cap, rfl⟩ := hS.shape
  obtain ⟨n, hn⟩ : ∃ n, n = min r c := ⟨_, rfl⟩
  have hnr : n ≤ r := by rw [hn]; exact Nat.min_le_left _ _
  have hnc : n ≤ c := by rw [hn]; exact Nat.min_le_right _ _
  have hmin : min (r : Int) c = (n : Int) := by omega
  have hmk := mk_vec n (by omega)
  obtain ⟨fc, hfc⟩ : ∃ fc, fc = fcl (List.replicate n 0) := ⟨_, rfl⟩
  rw [← hfc] at hmk
  rw [← hn]
  obtain ⟨X, hX⟩ : ∃ X, X = w.heap.size := ⟨_, rfl⟩
  have HX := Lib.hid hX
  have HF := Lib.hid hfc
  have H3 := Lib.hid h3
  clear hS hn hfc h3
  go_enter Tryz.func39, Tryz.ntmps39
  go_wp2_with fail
  ((with_reducible refine (hck _ ?_).mono ?_))
  · exact ((In.self w).alloc _).bel
  rintro e w2 ⟨rfl, hb⟩
  have hin := ((In.self w).alloc (.cells #[.int .i64 r, .int .i64 c, .slice sa r cap] 63)).call hb
  have bx := (Bx.new_at w #[.int .i64 r, .int .i64 c, .slice sa r cap] 63 hX).call hb
  rw [← hX]
  clear hX hb hck
  have x0 := bx.c0
  have x1 := bx.c1
  have xl := bx.lt
  go_upto_region 5 with fail
  obtain ⟨g, hg⟩ : ∃ g, g = w2.heap.size := ⟨_, rfl⟩
  have hXg : X < g := by omega
  have bv : VBx (w2.alloc (.cells fc.toArray 56)) g (pv (fun i => f i i) n 0) := by
    have := Bx.new_at w2 fc.toArray 56 hg
    show Bx _ g 56 (fcl _)
    rw [pv_zero, ← HF.out]; exact this
  replace bx := bx.alloc (.cells fc.toArray 56)
  replace hin := hin.alloc (.cells fc.toArray 56)
  rw [← hg]
  clear hg hmk x0 x1 xl hmin
  generalize w2.alloc (.cells fc.toArray 56) = W1 at *
  go_wp2_with fail
  go_loopw [20] (fun v20 wr => ∃ k : Nat, k ≤ n ∧ v20 = .int .i64 k ∧ In w.heap.size w wr ∧ Bx wr X 63 [.int .i64 r, .int .i64 c, .slice sa r cap] ∧ VBx wr g (pv (fun i => f i i) n k)) (fun v20 _ => n - (RowKit.intOf v20).toNat)
  case atStart => exact ⟨0, Nat.zero_le _, rfl, hin, bx, bv⟩
  case round =>
    clear hin bx bv
    obtain ⟨k, hk, rfl, hin, bx, bv⟩ := hrel
    by_cases hkn : k < n
    · have hkI : (k : Int) < n := by omega
      have hk0 : (0 : Int) ≤ k := by omega
      have h3 := H3.out wr k (by omega) (by omega) hin.bel
      obtain ⟨q, hq⟩ : ∃ q, q = f k k := ⟨_, rfl⟩
      rw [← hq] at h3
      have HQ := Lib.hid hq
      have x0 := bx.c0
      have x1 := bx.c1
      have x2 := bx.c2
      have xl := bx.lt
      clear hq
      go_wp2_with fail
      ((with_reducible refine h3.mono ?_))
      rintro e w3 ⟨rfl, hb⟩
      have hin3 := hin.call hb
      have bx3 := bx.call hb
      have bv3 := bv.call hb
      have hlt : k < (pv (fun i => f i i) n k).length := by rw [pv_length]; exact hkn
      obtain ⟨_, _, _, _, _, _, c0, c1, c2, c3, c4, f0, f1, f2, f3, f4⟩ := VBx.cells bv3 hlt
      have hgl := bv3.lt
      have hs := VBx.set bv3 k q hlt
      rw [show (pv (fun i => f i i) n k).set k q = pv (fun i => f i i) n (k + 1) by rw [HQ.out]; exact pv_set _ _ _] at hs
      have H1 := Lib.hid hs
      have H2 := Lib.hid (hin3.put5 (g := g) (by have := HX.out; omega) k q)
      have H4 := Lib.hid (((((bx3.other (a := ⟨g, k * 5, none⟩) (by simp; omega) (.int .u64 (lo q.num.natAbs))).other (a := ⟨g, k * 5 + 1, none⟩) (by simp; omega) (.string (bg q.num.natAbs))).other (a := ⟨g, k * 5 + 2, none⟩) (by simp; omega) (.bool (decide (q.num < 0)))).other (a := ⟨g, k * 5 + 3, none⟩) (by simp; omega) (.int .u64 (lo (q.den - 1)))).other (a := ⟨g, k * 5 + 4, none⟩) (by simp; omega) (.string (bg (q.den - 1))))
      have hkw : IntKind.i64.wrap ((k : Int) + 1) = ((k + 1 : Nat) : Int) := IntWalk.i64_in _ (by omega)
      clear hs hin3 bx3 bv3 hin bx bv hb h3 x0 x1 x2 xl
      go_wp2_with fail
      exact ⟨⟨k + 1, by omega, by go_num, H2.out, H4.out, H1.out⟩, by simp [RowKit.intOf]; omega⟩
    · obtain rfl : k = n := by omega
      have hkI : ¬ (k : Int) < k := by omega
      rw [pv_full] at bv
      have hv : VecAt wr (.slice (some ⟨g, 0, none⟩) k k) ((List.range k).map fun i => f i i) := VBx.at bv k (by simp) k
      have H1 := Lib.hid hv
      have H2 := Lib.hid hin
      clear bv hin bx hv
      go_wp2_with fail
      exact bodyPost_ret (v := .tuple #[.slice (some ⟨g, 0, none⟩) k k, .int .i64 0]) (by simp [results, Tryz.results39, go_sem]) rfl ⟨⟨_, rfl, H1.out⟩, H2.out.bel⟩
end Gus
end
section
/- sparses.Items. -/
namespace Gus
open Go Go.RowKit Go.Proofs
theorem info_item : (Tryz.prog.info? 60).map (fun i => (i.zero, i.size, i.bytes)) = some (some (.agg #[.int .i64 0, .int .i64 0, .int .u64 0, .string ⟨#[]⟩, .bool false, .int .u64 0, .string ⟨#[]⟩]), 7, 72) := by kernel_rfl
theorem ownsRow_below {w w' : World} {base : Nat} {e : TypeId} {size : Nat} {v : Value} {n : Nat} {xs : List Value} (h : w.ownsRow base e size v n xs) (hb : Below w.heap.size w w') : w'.ownsRow base e size v n xs :=
  h.kept (row := none) ⟨hb.os, hb.tape, hb.output, hb.size, fun k hk _ => hb.block k hk⟩ (by cases v.ownBlock <;> simp)
def itl (L : List Itm) : List Value := L.flatMap ics
theorem itl_length (L : List Itm) : (itl L).length = L.length * 7 := by
  induction L with
  | nil => rfl
  | cons x L ih => unfold itl at ih ⊢; rw [List.flatMap_cons, List.length_append, ih, List.length_cons]; show 7 + _ = _; omega
def toI (x : Nat × Nat × Rat) : Itm := ((x.1 : Int), (x.2.1 : Int), x.2.2)
set_option maxRecDepth 100000 in
set_option maxHeartbeats 2000000 in
theorem itm1_any (N : Nat) (w0 W : World) (q base : Nat) (v : Value) (L : List Itm) (i k : Nat) (x : Rat) (hq : Bx W q 32 [v]) (hown : W.ownsRow base 60 7 v L.length (itl L)) (hqb : q < base) (hbs : base ≤ W.heap.size) (hl : L.length ≤ 4194304) (hin : In N w0 W) (hNq : N ≤ q) :
    Calls Tryz.prog 99 #[.int .i64 i, .int .i64 k, fracV x, .pointer (some ⟨q, 0, none⟩)] W fun e w' => e = .returned (.tuple #[]) ∧ (∃ v', Bx w' q 32 [v'] ∧ w'.ownsRow base 60 7 v' (L.length + 1) (itl (L ++ [toI (i, k, x)]))) ∧ In N w0 w' ∧ W.heap.size ≤ w'.heap.size := by
  obtain ⟨A1, A2, A3, A4, A5, hA, hA2⟩ : ∃ A1 A2 A3 A4 A5, fracV x = .agg #[.int .u64 A1, .string A2, .bool A3, .int .u64 A4, .string A5] ∧ fcs x = [.int .u64 A1, .string A2, .bool A3, .int .u64 A4, .string A5] := ⟨_, _, _, _, _, rfl, rfl⟩
  have hics : ics (toI (i, k, x)) = [.int .i64 i, .int .i64 k, .int .u64 A1, .string A2, .bool A3, .int .u64 A4, .string A5] := by unfold ics toI; rw [hA2]
  have hsnoc : itl (L ++ [toI (i, k, x)]) = itl L ++ [.int .i64 i, .int .i64 k, .int .u64 A1, .string A2, .bool A3, .int .u64 A4, .string A5] := by
    unfold itl; rw [List.flatMap_append, ← hics]; simp
  rw [hsnoc, hA]
  obtain ⟨i0, hi0, hi1, hi2, hi3⟩ := info_parts info_item
  obtain ⟨n, hn⟩ : ∃ n, n = L.length := ⟨_, rfl⟩
  obtain ⟨cs, hcs⟩ : ∃ cs, cs = itl L := ⟨_, rfl⟩
  rw [← hn, ← hcs] at hown
  rw [← hn] at hl ⊢
  rw [← hcs]
  have HOWN := Lib.hid hown
  have hql := hq.lt
  have q0 := hq.c0
  have qf := hq.frozen 0
  clear hA hA2 hics hsnoc hn hcs hown
  obtain ⟨va, vn, vc, rfl⟩ : ∃ a n k, v = .slice a n k := by
    rcases HOWN.out.2 with ⟨rfl, _⟩ | ⟨g, c, _, rfl, _⟩
    · exact ⟨_, _, _, rfl⟩
    · exact ⟨_, _, _, rfl⟩
  go_enter Tryz.func99, Tryz.ntmps99
  obtain ⟨W2, hW2⟩ : ∃ W2, W2 = (W.alloc (.cells #[.int .u64 A1, .string A2, .bool A3, .int .u64 A4, .string A5] 56)).alloc (.cells #[.int .i64 i, .int .i64 k, .int .u64 A1, .string A2, .bool A3, .int .u64 A4, .string A5] 60) := ⟨_, rfl⟩
  have bi := Bx.new_at (W.alloc (.cells #[.int .u64 A1, .string A2, .bool A3, .int .u64 A4, .string A5] 56)) #[.int .i64 i, .int .i64 k, .int .u64 A1, .string A2, .bool A3, .int .u64 A4, .string A5] 60 (n := W.heap.size + 1) (by rw [World.size_alloc])
  have hown2 := (HOWN.out.alloc (.cells #[.int .u64 A1, .string A2, .bool A3, .int .u64 A4, .string A5] 56)).alloc (.cells #[.int .i64 i, .int .i64 k, .int .u64 A1, .string A2, .bool A3, .int .u64 A4, .string A5] 60)
  have hq2 := (hq.alloc (.cells #[.int .u64 A1, .string A2, .bool A3, .int .u64 A4, .string A5] 56)).alloc (.cells #[.int .i64 i, .int .i64 k, .int .u64 A1, .string A2, .bool A3, .int .u64 A4, .string A5] 60)
  have hin2 := (hin.alloc (.cells #[.int .u64 A1, .string A2, .bool A3, .int .u64 A4, .string A5] 56)).alloc (.cells #[.int .i64 i, .int .i64 k, .int .u64 A1, .string A2, .bool A3, .int .u64 A4, .string A5] 60)
  have hsz : W2.heap.size = W.heap.size + 1 + 1 := by rw [hW2, World.size_alloc, World.size_alloc]
  rw [← hW2] at bi hown2 hq2 hin2
  have HW2 := Lib.hid hW2
  have HOWN2 := Lib.hid hown2
  have HQ2 := Lib.hid hq2
  have HIN2 := Lib.hid hin2
  have HBI := Lib.hid bi
  have hvlt := hown2.lt
  have HVLT := Lib.hid hvlt
  clear hW2 hown2 hq2 hin2 bi hvlt hq hin HOWN
  go_wp2_with (at_builtin; refine wpList_append_own _ rfl (.tmp 7) (.tmp 12) 32 rfl base 60 i0 (.agg #[.int .i64 0, .int .i64 0, .int .u64 0, .string ⟨#[]⟩, .bool false, .int .u64 0, .string ⟨#[]⟩]) 7 72 Tryz.underlying32 hi0 hi1 hi2 hi3 rfl (by decide) (.slice va vn vc) n cs rfl (by rw [← HW2.out]; exact HOWN2.out) ⟨W.heap.size + 1, 0, none⟩ 1 1 [.int .i64 i, .int .i64 k, .int .u64 A1, .string A2, .bool A3, .int .u64 A4, .string A5] rfl rfl ?c1 ?c2 ?c3 ?c4 ?c5 ?_)
  case c2 => exact ⟨rfl, rfl, rfl, rfl, rfl, rfl, rfl⟩
  case c3 => simp only [maxLen]; omega
  case c4 => omega
  case c5 => omega
  intro v' w3 hown3 hgr _
  rw [← HW2.out] at hgr
  have bq3 := HQ2.out.grown hgr (fun h => by have := (HVLT.out _ h.symm).1; omega)
  have hin3 : In N w0 w3 := ⟨HIN2.out.bel.grown hgr HIN2.out.siz (fun k h => by have := (HVLT.out _ h).1; omega), Nat.le_trans HIN2.out.siz hgr.size⟩
  have hsz3 := hgr.size
  obtain ⟨g9, c9, rfl⟩ : ∃ g9 c9, v' = .slice (some ⟨g9, 0, none⟩) (n + 1) c9 := by
    rcases hown3.2 with ⟨_, hn⟩ | ⟨g9, c9, cur, h9, _⟩
    · omega
    · exact ⟨g9, c9, h9⟩
  have q3 := bq3.c0
  have qf3 := bq3.frozen 0
  have ql3 := bq3.lt
  have K1 := Lib.hid (bq3.set 0 (.slice (some ⟨g9, 0, none⟩) (n + 1) c9))
  have K2 := Lib.hid (ownsRow_setCell_low hown3 (a := ⟨q, 0, none⟩) hqb (.slice (some ⟨g9, 0, none⟩) (n + 1) c9))
  have K3 := Lib.hid (hin3.setCell (p := ⟨q, 0, none⟩) hNq (.slice (some ⟨g9, 0, none⟩) (n + 1) c9))
  have HSZ : Hid (W.heap.size ≤ w3.heap.size) := Lib.hid (by omega)
  clear hown3 hgr bq3 hin3 hsz3 HW2 HOWN2 HQ2 HIN2 HBI HVLT hsz q0 qf
  go_wp2_with fail
  go_end0
  exact ⟨rfl, ⟨_, K1.out, K2.out⟩, K3.out, by rw [World.size_setCell]; exact HSZ.out⟩
theorem itl_at : ∀ (L : List Itm) (i j : Nat), i < L.length → j < 7 → (itl L)[i * 7 + j]? = (ics (L.getD i (0, 0, 0)))[j]?
  | [], i, j, h, _ => absurd h (Nat.not_lt_zero _)
  | x :: L, 0, j, _, hj => by
    unfold itl
    rw [List.flatMap_cons, Nat.zero_mul, Nat.zero_add, List.getElem?_append_left (by exact hj)]; rfl
  | x :: L, i + 1, j, h, hj => by
    have := itl_at L i j (Nat.lt_of_succ_lt_succ h) hj
    unfold itl at this ⊢
    rw [List.flatMap_cons, List.getElem?_append_right (by show 7 ≤ _; omega), show (i + 1) * 7 + j - (ics x).length = i * 7 + j by show (i + 1) * 7 + j - 7 = _; omega, this]; rfl
theorem itsAt_own {w : World} {base : Nat} {a : Option Addr} {cap : Nat} {L : List Itm} (h : w.ownsRow base 60 7 (.slice a L.length cap) L.length (itl L)) : ItsAt w a L := fun i hi => by
  rcases h.2 with ⟨_, hn⟩ | ⟨g, cap, cur, hv, hb, hg, hrest⟩
  · omega
  · simp only [Value.slice.injEq] at hv
    refine ⟨g, 0, hv.1, (Array.getElem?_eq_some_iff.1 hg).1, fun j hj => ?_⟩
    have hk := itl_at L i j hi hj
    have hj7 : j < (ics (L.getD i (0, 0, 0))).length := hj
    rw [List.getElem?_eq_getElem hj7] at hk ⊢
    have := h.cells (g := g) (by rw [hv.1]; rfl) (i * 7 + j) _ hk
    rw [Nat.zero_add, ← this]
    unfold Addr.add
    split <;> simp_all
theorem clipI_some (a : Addr) (n cap : Nat) (h : n ≤ cap) (w : World) : Calls Tryz.prog 100 #[.slice (some a) n cap] w fun e w' => e = .returned (.slice (some a) n n) ∧ Below w.heap.size w w' := by
  go_enter Tryz.func100, Tryz.ntmps100
  go_wp2_with fail
  go_ret
  exact ⟨rfl, Below.refl _ _⟩
theorem clipI_nil (w : World) : Calls Tryz.prog 100 #[.slice none 0 0] w fun e w' => e = .returned (.slice none 0 0) ∧ Below w.heap.size w w' := by
  go_enter Tryz.func100, Tryz.ntmps100
  go_wp2_with fail
  go_ret
  exact ⟨rfl, Below.refl _ _⟩
set_option maxRecDepth 100000 in
set_option maxHeartbeats 4000000 in
theorem sitems_any (w : World) (v : Value) (r c : Nat) (f : Nat → Nat → Rat) (hS : SpM w v r c f) (hr : r ≤ 2048) (hc : c ≤ 2048) :
    Calls Tryz.prog 41 #[v] w fun e w' => (∃ a cap, e = .returned (.slice a (items r c f).length cap) ∧ ItsAt w' a ((items r c f).map toI)) ∧ Below w.heap.size w w' := by
  have hck := fun W (hb : Below w.heap.size w W) => scheck_ok (hS.call hb) hr hc
  obtain ⟨sa, cap, rfl⟩ := hS.shape
  obtain ⟨X, hX⟩ : ∃ X, X = w.heap.size := ⟨_, rfl⟩
  have HX := Lib.hid hX
  have HS := Lib.hid hS
  obtain ⟨T, hT⟩ : ∃ T, T = items r c f := ⟨_, rfl⟩
  have hTb : T.length ≤ 4194304 := by rw [hT]; exact Nat.le_trans (items_length r c f) (Nat.mul_le_mul hr hc)
  rw [← hT]
  have HT := Lib.hid hT
  clear hS hT
  go_enter Tryz.func41, Tryz.ntmps41
  go_wp2_with fail
  ((with_reducible refine (hck _ ?_).mono ?_))
  · exact (((In.self w).alloc _).alloc _).bel
  rintro e w2 ⟨rfl, hb⟩
  have hin := (((In.self w).alloc (.cells #[.int .i64 r, .int .i64 c, .slice sa r cap] 63)).alloc (.cells #[.slice none 0 0] 32)).call hb
  have bx := ((Bx.new_at w #[.int .i64 r, .int .i64 c, .slice sa r cap] 63 hX).alloc (.cells #[.slice none 0 0] 32)).call hb
  have bq := (Bx.new_at (w.alloc (.cells #[.int .i64 r, .int .i64 c, .slice sa r cap] 63)) #[.slice none 0 0] 32 (n := X + 1) (by rw [World.size_alloc, hX])).call hb
  rw [← hX]
  clear hX hb hck
  have he := each_any (fun t W => (∃ v pre, T = pre ++ t ∧ Bx W (X + 1) 32 [v] ∧ W.ownsRow (X + 1 + 1) 60 7 v pre.length (itl (pre.map toI))) ∧ In w.heap.size w W ∧ X + 1 + 1 ≤ W.heap.size)
    w w2 (.agg #[.int .i64 r, .int .i64 c, .slice sa r cap]) r c (mrows r c f) 99 #[.pointer (some ⟨X + 1, 0, none⟩)] (enters_of Tryz.func99 (by kernel_rfl) rfl) HS.out (fun t W h => h.2.1) (fun t W W' ⟨⟨v, pre, h1, h2, h3⟩, h4, h5⟩ hb => ⟨⟨v, pre, h1, h2.call hb, ownsRow_below h3 hb⟩, h4.call hb, Nat.le_trans h5 hb.size⟩)
    (fun i k x t W ⟨⟨v, pre, h1, h2, h3⟩, h4, h5⟩ => by
      have hpl : pre.length ≤ 4194304 := by rw [h1, List.length_append] at hTb; omega
      have := itm1_any w.heap.size w W (X + 1) (X + 1 + 1) v (pre.map toI) i k x h2 (by rw [List.length_map]; exact h3) (by omega) h5 (by rw [List.length_map]; exact hpl) h4 (by have := HX.out; omega)
      refine this.mono ?_
      rintro e w' ⟨rfl, ⟨v', k1, k2⟩, k3, k4⟩
      refine ⟨rfl, ⟨v', pre ++ [(i, k, x)], by rw [h1]; simp, k1, ?_⟩, k3, by omega⟩
      rw [List.length_map] at k2
      rw [List.length_append, List.map_append]
      exact k2)
    (by rw [mrows_length]; omega) (fun i => Nat.le_trans (mrows_row r c f i) (by omega))
    ⟨⟨_, [], HT.out, bq, World.ownsRow_nil _ _ _ _⟩, hin, by have := bq.lt; omega⟩
  have x0 := bx.c0
  have x1 := bx.c1
  have x2 := bx.c2
  have xl := bx.lt
  clear bx bq hin
  go_wp2_with fail
  ((with_reducible refine he.mono ?_))
  rintro e w4 ⟨rfl, ⟨v, pre, h1, h2, h3⟩, h4, _⟩
  obtain rfl : T = pre := by rw [h1, List.append_nil]
  have q0 := h2.c0
  have qf := h2.frozen 0
  have ql := h2.lt
  clear he x0 x1 x2 xl h1
  have hX1 : w.heap.size ≤ X + 1 := by have := HX.out; omega
  obtain ⟨n, hn⟩ : ∃ n, n = T.length := ⟨_, rfl⟩
  have hmap : (T.map toI).length = n := by rw [List.length_map, hn]
  rw [← hn] at h3
  have HN := Lib.hid hn
  have HMAP := Lib.hid hmap
  clear hn hmap
  obtain ⟨a', k', rfl, hcl⟩ : ∃ a' k', v = .slice a' n k' ∧ ∀ W : World, Calls Tryz.prog 100 #[.slice a' n k'] W fun e w' => e = .returned (.slice a' n n) ∧ Below W.heap.size W w' := by
    rcases h3.2 with ⟨rfl, hn0⟩ | ⟨g, cap2, cur, rfl, hb, hg, hnc, _⟩
    · subst hn0
      exact ⟨none, 0, rfl, clipI_nil⟩
    · exact ⟨_, _, rfl, fun W => clipI_some _ n cap2 hnc W⟩
  have HOWN : Hid (∀ W : World, W.ownsRow (X + 1 + 1) 60 7 (.slice a' n k') n (itl (T.map toI)) → ItsAt W a' (T.map toI)) := Lib.hid fun W h => by
    have h2 := HMAP.out
    subst h2
    exact itsAt_own h
  have H3 := Lib.hid h3
  clear h3
  go_wp2_with fail
  ((with_reducible refine (hcl _).mono ?_))
  rintro e w5 ⟨rfl, hb5⟩
  have h5 := h2.call hb5
  have q3 := h5.c0
  have qf3 := h5.frozen 0
  have ql3 := h5.lt
  have K1 := Lib.hid (h5.set 0 (.slice a' n n))
  have K2 := Lib.hid (HOWN.out _ (ownsRow_setCell_low (ownsRow_below H3.out hb5) (a := ⟨X + 1, 0, none⟩) (Nat.lt_succ_self _) (.slice a' n n)))
  have K3 := Lib.hid ((h4.call hb5).setCell (p := ⟨X + 1, 0, none⟩) hX1 (.slice a' n n))
  clear h2 h4 h5 hb5 H3 HOWN hcl q0 qf ql
  go_wp2_with fail
  have k1 := K1.out
  have k2 := K2.out
  have k3 := K3.out
  clear K1 K2 K3 q3 qf3 ql3
  generalize w5.setCell ⟨X + 1, 0, none⟩ (.slice a' n n) = W5 at *
  have e0 : W5.cell? ⟨X + 1, 0, none⟩ = some (.slice a' n n) := k1.cell 0
  refine bodyPost_ret (v := .slice a' n n) ?_ rfl ⟨⟨a', n, by rw [← HN.out], k2⟩, k3.bel⟩
  simp [results, Tryz.results41, go_sem, e0]
end Gus
end
section
/- gussetlaw16.equals. -/
namespace Gus
open Go Go.RowKit Go.Proofs
set_option maxRecDepth 100000 in
set_option maxHeartbeats 2000000 in
theorem eq_bad (w : World) (e : Int) (he : e ≠ 0) (p q : Value) (a : Option Addr) (n k : Nat) :
    Calls Tryz.prog 40 #[zeroSp, .int .i64 e, .agg #[p, q, .slice a n k], .int .i64 e] w fun e w' => e = .returned (.bool true) ∧ Below w.heap.size w w' := by
  have h1 : (e == 0) = false := by simpa using he
  have h2 : (e != 0) = true := by simpa using he
  clear he
  go_enter Tryz.func40, Tryz.ntmps40
  go_wp2_with fail
  go_ret
  exact ⟨rfl, by (refine In.bel ?_; (repeat (first | (refine In.setCell ?_ (by first | omega | (simp; done) | (simp; omega)) _) | (refine In.alloc ?_ _) | (refine In.drew ?_))); (first | exact In.self _ | (refine In.out h ?_ (by first | omega | (simp; done) | (simp; omega)); (repeat (first | (refine In.setCell ?_ (by first | omega | (simp; done) | (simp; omega)) _) | (refine In.alloc ?_ _) | (refine In.drew ?_))); exact In.self _)))⟩
set_option maxRecDepth 100000 in
set_option maxHeartbeats 2000000 in
theorem eq_ok (w : World) (s m : Value) (r c : Nat) (f : Nat → Nat → Rat) (hS : SpM w s r c f) (hM : MatAt w m r c (dense r c f)) (hr : r ≤ 64) (hc : c ≤ 64) :
    Calls Tryz.prog 40 #[s, .int .i64 0, m, .int .i64 0] w fun e w' => e = .returned (.bool true) ∧ Below w.heap.size w w' := by
  have hrc : r * c ≤ 4096 := Nat.mul_le_mul hr hc
  have h1 := fun W (hb : Below w.heap.size w W) => dense_ok W s r c f (hS.call hb) (by omega) (by omega)
  have h2 := fun W (hb : Below w.heap.size w W) => scheck_ok (hS.call hb) (show r ≤ 2048 by omega) (show c ≤ 2048 by omega)
  have h3 := fun W d (hd : MatAt W d r c (dense r c f)) (hb : Below w.heap.size w W) => msame_any W d m r c r c (dense r c f) (dense r c f) hd (hM.call hb) (by rw [dense_length]; omega)
  rw [show sameD r c (dense r c f) r c (dense r c f) = true by simp [sameD]] at h3
  obtain ⟨sa, sk, rfl⟩ := hS.shape
  obtain ⟨ma, mk, rfl⟩ := hM.shape
  rw [dense_length] at h3 ⊢
  obtain ⟨n, hn⟩ : ∃ n, n = r * c := ⟨_, rfl⟩
  rw [← hn] at h3 ⊢
  obtain ⟨X, hX⟩ : ∃ X, X = w.heap.size := ⟨_, rfl⟩
  have HX := Lib.hid hX
  have HN := Lib.hid hn
  clear hS hM hn hrc
  go_enter Tryz.func40, Tryz.ntmps40
  go_wp2_with fail
  ((with_reducible refine (h1 _ ?_).mono ?_))
  · exact (((In.self w).alloc _).alloc _).bel
  rintro e w2 ⟨⟨d, rfl, hd⟩, hb⟩
  have hin := (((In.self w).alloc (.cells #[.int .i64 r, .int .i64 c, .slice sa r sk] 63)).alloc (.cells #[.int .i64 r, .int .i64 c, .slice ma n mk] 78)).call hb
  have bx := ((Bx.new_at w #[.int .i64 r, .int .i64 c, .slice sa r sk] 63 hX).alloc (.cells #[.int .i64 r, .int .i64 c, .slice ma n mk] 78)).call hb
  have bm := (Bx.new_at (w.alloc (.cells #[.int .i64 r, .int .i64 c, .slice sa r sk] 63)) #[.int .i64 r, .int .i64 c, .slice ma n mk] 78 (n := X + 1) (by rw [World.size_alloc, hX])).call hb
  obtain ⟨da, dk, rfl⟩ := hd.shape
  rw [dense_length, ← HN.out] at hd ⊢
  rw [← hX]
  clear hX hb h1
  go_upto_region 4 with fail
  obtain ⟨Z, hZ⟩ : ∃ Z, Z = w2.heap.size := ⟨_, rfl⟩
  have bd := Bx.new_at w2 #[.int .i64 r, .int .i64 c, .slice da n dk] 78 hZ
  have hin2 := hin.alloc (.cells #[.int .i64 r, .int .i64 c, .slice da n dk] 78)
  have bx2 := bx.alloc (.cells #[.int .i64 r, .int .i64 c, .slice da n dk] 78)
  have bm2 := bm.alloc (.cells #[.int .i64 r, .int .i64 c, .slice da n dk] 78)
  have hd2 := hd.call ((Below.refl _ _).alloc (Nat.le_refl _) (.cells #[.int .i64 r, .int .i64 c, .slice da n dk] 78))
  rw [← hZ]
  clear hZ hin bx bm hd
  generalize w2.alloc (.cells #[.int .i64 r, .int .i64 c, .slice da n dk] 78) = W3 at *
  have x0 := bx2.c0
  have x1 := bx2.c1
  have x2 := bx2.c2
  have xl := bx2.lt
  go_wp2_with fail
  ((with_reducible refine (h2 _ hin2.bel).mono ?_))
  rintro e w4 ⟨rfl, hb⟩
  have hin4 := hin2.call hb
  have bd4 := bd.call hb
  have bm4 := bm2.call hb
  have hd4 := hd2.call hb
  clear hin2 bd bx2 bm2 hd2 hb h2 x0 x1 x2 xl
  have d0 := bd4.c0
  have d1 := bd4.c1
  have d2 := bd4.c2
  have dl := bd4.lt
  have m0 := bm4.c0
  have m1 := bm4.c1
  have m2 := bm4.c2
  have ml := bm4.lt
  go_wp2_with fail
  ((with_reducible refine (h3 _ _ hd4 hin4.bel).mono ?_))
  rintro e w5 ⟨rfl, hb⟩
  have hin5 := hin4.call hb
  clear hin4 bd4 bm4 hd4 hb h3 d0 d1 d2 dl m0 m1 m2 ml
  go_wp2_with fail
  go_ret
  exact ⟨rfl, hin5.bel⟩
end Gus
end
section
/- The items of a dense matrix's sparse form, in order; results of both Parts together. -/
namespace Gus
open Go Go.RowKit Go.Proofs
def nz (qs : List Rat) (p : Nat) : Bool := qs.getD p 0 != 0
theorem itemsF_append : ∀ (A B : List (List Ent)) (i : Nat), itemsF i (A ++ B) = itemsF i A ++ itemsF (i + A.length) B
  | [], B, i => by simp [itemsF]
  | x :: A, B, i => by
    rw [List.cons_append, itemsF, itemsF, itemsF_append A B (i + 1), List.append_assoc, List.length_cons, show i + 1 + A.length = i + (A.length + 1) by omega]
theorem mrows_succ (r c : Nat) (f : Nat → Nat → Rat) : mrows (r + 1) c f = mrows r c f ++ [rowOf (f r) c] := by
  unfold mrows rowsL
  rw [List.range_succ, List.map_append, List.map_singleton]
theorem range_mul_succ (r c : Nat) : List.range ((r + 1) * c) = List.range (r * c) ++ (List.range c).map (r * c + ·) := by
  rw [Nat.add_mul, Nat.one_mul, List.range_add]
theorem items_dense (c : Nat) (qs : List Rat) : ∀ r, items r c (mvals c qs) = ((List.range (r * c)).filter (nz qs)).map fun p => (p / c, p % c, qs.getD p 0)
  | 0 => by simp [items, mrows, rowsL, itemsF]
  | r + 1 => by
    have ih := items_dense c qs r
    unfold items at ih ⊢
    rw [mrows_succ, itemsF_append, ih, range_mul_succ, List.filter_append, List.map_append]
    congr 1
    rw [mrows_length, Nat.zero_add]
    simp only [itemsF, List.append_nil, rowOf, List.map_map]
    rw [List.filter_map, List.map_map]
    have e1 : (List.range c).filter (fun k => mvals c qs r k != 0) = (List.range c).filter (nz qs ∘ fun k => r * c + k) := List.filter_congr fun k _ => rfl
    rw [e1]
    refine List.map_congr_left fun k hk => ?_
    have hkc : k < c := List.mem_range.1 (List.mem_filter.1 hk).1
    simp only [Function.comp]
    rw [(pos_of (i := r) hkc).1, (pos_of (i := r) hkc).2]; rfl
/-- how many of the first elements are not zero -/
def nzN (qs : List Rat) (p : Nat) : Nat := ((List.range p).filter (nz qs)).length
theorem nzN_succ (qs : List Rat) (p : Nat) : nzN qs (p + 1) = nzN qs p + if nz qs p then 1 else 0 := by
  unfold nzN
  rw [List.range_succ, List.filter_append, List.length_append]
  by_cases h : nz qs p = true
  · rw [if_pos h]; simp [h]
  · rw [if_neg h]; simp [h]
theorem nzN_le (qs : List Rat) (p : Nat) : nzN qs p ≤ p := by
  unfold nzN
  have := List.length_filter_le (nz qs) (List.range p)
  rwa [List.length_range] at this
theorem nz_at (qs : List Rat) {p n : Nat} (hp : p < n) (h : nz qs p = true) : ((List.range n).filter (nz qs))[nzN qs p]? = some p := by
  have e : List.range n = List.range p ++ (p :: (List.range (n - p - 1)).map (p + 1 + ·)) := by
    have h1 : n = p + (1 + (n - p - 1)) := by omega
    rw [h1, List.range_add, List.range_add, List.map_append, List.range_one, List.map_singleton, Nat.add_zero, List.map_map, show p + (1 + (n - p - 1)) - p - 1 = n - p - 1 by omega]
    congr 1
    rw [List.singleton_append]
    congr 1
    refine List.map_congr_left fun x _ => ?_
    simp only [Function.comp]; omega
  unfold nzN
  rw [e, List.filter_append, List.filter_cons_of_pos h, List.getElem?_append_right (Nat.le_refl _), Nat.sub_self]; rfl
theorem items_len (r c : Nat) (qs : List Rat) : (items r c (mvals c qs)).length = nzN qs (r * c) := by
  rw [items_dense, List.length_map]; rfl
theorem items_at (r c : Nat) (qs : List Rat) {p : Nat} (hp : p < r * c) (h : nz qs p = true) : (items r c (mvals c qs))[nzN qs p]? = some (p / c, p % c, qs.getD p 0) := by
  rw [items_dense, List.getElem?_map, nz_at qs hp h]; rfl
theorem nz_lt (qs : List Rat) {p n : Nat} (hp : p < n) (h : nz qs p = true) : nzN qs p < nzN qs n :=
  (List.getElem?_eq_some_iff.1 (nz_at qs hp h)).1
/-- the items add up to the matrix -/
theorem foldA_items (r c : Nat) (f : Nat → Nat → Rat) {i k : Nat} (hi : i < r) (hk : k < c) : foldA (fun _ _ => 0) (items r c f) i k = f i k := by
  rw [foldA_at, Rat.zero_add]
  have := sumAt_items (r := r) (c := c) (f := f) (fun a b => (a, b)) (fun _ _ q => q) (fun _ _ _ _ e => ⟨congrArg Prod.fst e, congrArg Prod.snd e⟩) i k hi hk rfl
  simpa using this
theorem items_ok (r c : Nat) (f : Nat → Nat → Rat) : ((items r c f).map toI).all (okI r c) = true := by
  rw [List.all_eq_true]
  intro x hx
  obtain ⟨⟨i, k, q⟩, hy, rfl⟩ := List.mem_map.1 hx
  have := mem_items.1 hy
  unfold okI toI
  simp
  omega
theorem toN_toI (L : List (Nat × Nat × Rat)) : (L.map toI).map toN = L := by
  rw [List.map_map]
  conv => rhs; rw [← List.map_id L]
  exact List.map_congr_left fun x _ => by simp [toN, toI]
/-- what sparses.Part gives, whether or not the indices are in range -/
def PRes (bad : Bool) (nr nc : Nat) (F : Nat → Nat → Rat) (w : World) (v : Value) (e : Int) : Prop :=
  (∃ pn pm pa pl pk, v = .agg #[.int .i64 pn, .int .i64 pm, .slice pa pl pk]) ∧ ((bad = true ∧ e = 1 ∧ v = zeroSp) ∨ (bad = false ∧ e = 0 ∧ SpM w v nr nc F))
def DRes (bad : Bool) (nr nc : Nat) (F : Nat → Nat → Rat) (w : World) (v : Value) (e : Int) : Prop :=
  (∃ pn pm pa pl pk, v = .agg #[.int .i64 pn, .int .i64 pm, .slice pa pl pk]) ∧ ((bad = true ∧ e = 1 ∧ v = zeroSp) ∨ (bad = false ∧ e = 0 ∧ MatAt w v nr nc (dense nr nc F)))
theorem PRes.call {bad : Bool} {nr nc : Nat} {F : Nat → Nat → Rat} {w w' : World} {v : Value} {e : Int} (h : PRes bad nr nc F w v e) (hb : Below w.heap.size w w') : PRes bad nr nc F w' v e :=
  ⟨h.1, h.2.imp id fun h => ⟨h.1, h.2.1, h.2.2.call hb⟩⟩
theorem DRes.call {bad : Bool} {nr nc : Nat} {F : Nat → Nat → Rat} {w w' : World} {v : Value} {e : Int} (h : DRes bad nr nc F w v e) (hb : Below w.heap.size w w') : DRes bad nr nc F w' v e :=
  ⟨h.1, h.2.imp id fun h => ⟨h.1, h.2.1, h.2.2.call hb⟩⟩
theorem eq_res {bad : Bool} {nr nc : Nat} {F : Nat → Nat → Rat} {w : World} {s m : Value} {e f : Int} (h1 : PRes bad nr nc F w s e) (h2 : DRes bad nr nc F w m f) (hr : nr ≤ 64) (hc : nc ≤ 64) :
    Calls Tryz.prog 40 #[s, .int .i64 e, m, .int .i64 f] w fun e w' => e = .returned (.bool true) ∧ Below w.heap.size w w' := by
  rcases h1.2 with ⟨hb, rfl, rfl⟩ | ⟨hb, rfl, h3⟩
  · rcases h2.2 with ⟨_, rfl, rfl⟩ | ⟨hb2, _, _⟩
    · exact eq_bad w 1 (by decide) _ _ _ _ _
    · rw [hb] at hb2; cases hb2
  · rcases h2.2 with ⟨hb2, _, _⟩ | ⟨_, rfl, h4⟩
    · rw [hb] at hb2; cases hb2
    · exact eq_ok w s m nr nc F h3 h4 hr hc
theorem spart_res {j : Nat} (w : World) (v : Value) (r c : Nat) (f : Nat → Nat → Rat) (hS : SpM w v r c f) (hr : r ≤ 2048) (hc : c ≤ 2048) (a b : Option Addr) (ca cb : Nat) (xs ys : List Int) (hx : IntsAt w a xs) (hy : IntsAt w b ys) (hlx : xs.length ≤ 2048) (hly : ys.length ≤ 2048) (hz : ∀ i k, SzK j (f i k)) (hcap : xs.length * ys.length * (j + 1) + 1 < 17592186044416) :
    Calls Tryz.prog 35 #[v, .slice a xs.length ca, .slice b ys.length cb] w fun e w' => (∃ s e', e = .returned (.tuple #[s, .int .i64 e']) ∧ PRes (xs.any (outI r) || ys.any (outI c)) xs.length ys.length (partF f xs ys) w' s e') ∧ Below w.heap.size w w' := by
  by_cases hb : (xs.any (outI r) || ys.any (outI c)) = true
  · refine (spart_bad w v r c f hS hr hc a b ca cb xs ys hx hy hlx hly hb).mono ?_
    rintro e w' ⟨rfl, hbel⟩
    exact ⟨⟨_, _, rfl, ⟨_, _, _, _, _, rfl⟩, .inl ⟨hb, rfl, rfl⟩⟩, hbel⟩
  · have hb2 : (xs.any (outI r) || ys.any (outI c)) = false := by simpa using hb
    have hb3 := Bool.or_eq_false_iff.1 hb2
    refine (spart_ok w v r c f hS hr hc a b ca cb xs ys hx hy hlx hly hb3.1 hb3.2 hz hcap).mono ?_
    rintro e w' ⟨⟨s, rfl, hs⟩, hbel⟩
    have hm := hs.m
    obtain ⟨sa, sk, rfl⟩ := hm.shape
    exact ⟨⟨_, _, rfl, ⟨_, _, _, _, _, rfl⟩, .inr ⟨hb2, rfl, hm⟩⟩, hbel⟩
theorem mpart_res (w : World) (v : Value) (r c : Nat) (qs : List Rat) (hS : MatAt w v r c qs) (hr : r ≤ 2048) (hc : c ≤ 2048) (a b : Option Addr) (ca cb : Nat) (xs ys : List Int) (hx : IntsAt w a xs) (hy : IntsAt w b ys) (hlx : xs.length ≤ 2048) (hly : ys.length ≤ 2048) :
    Calls Tryz.prog 36 #[v, .slice a xs.length ca, .slice b ys.length cb] w fun e w' => (∃ s e', e = .returned (.tuple #[s, .int .i64 e']) ∧ DRes (xs.any (outI r) || ys.any (outI c)) xs.length ys.length (partF (mvals c qs) xs ys) w' s e') ∧ Below w.heap.size w w' := by
  refine (mpart_any w v r c qs hS hr hc a b ca cb xs ys hx hy hlx hly).mono ?_
  rintro e w' ⟨⟨hb, rfl⟩ | ⟨hb, d, rfl, hd⟩, hbel⟩
  · exact ⟨⟨_, _, rfl, ⟨_, _, _, _, _, rfl⟩, .inl ⟨hb, rfl, rfl⟩⟩, hbel⟩
  · obtain ⟨da, dk, rfl⟩ := hd.shape
    exact ⟨⟨_, _, rfl, ⟨_, _, _, _, _, rfl⟩, .inr ⟨hb, rfl, hd⟩⟩, hbel⟩
theorem items_szk {c j : Nat} {qs : List Rat} (hz : ∀ i, SzK j (qs.getD i 0)) (r : Nat) (i : Nat) : SzK j (((items r c (mvals c qs)).map toI).getD i (0, 0, 0)).2.2 := by
  rw [List.getD_eq_getElem?_getD, List.getElem?_map]
  rcases h : (items r c (mvals c qs))[i]? with _ | x
  · have := hz qs.length
    rw [List.getD_eq_getElem?_getD, List.getElem?_eq_none (Nat.le_refl _)] at this
    exact this
  · obtain ⟨a, b, q⟩ := x
    have hm := mem_items.1 (List.mem_of_getElem? h)
    show SzK j q
    rw [hm.2.2.2]
    exact hz _
/-- sparses.Of on the items of a dense form -/
theorem of_items {j : Nat} (w : World) (r c : Nat) (a : Option Addr) (cap : Nat) (qs : List Rat) (hI : ItsAt w a ((items r c (mvals c qs)).map toI)) (hr : r ≤ 2048) (hc : c ≤ 2048) (hl : (items r c (mvals c qs)).length ≤ 1048576) (hz : ∀ i, SzK j (qs.getD i 0)) (hcap : (items r c (mvals c qs)).length * (j + 1) + 1 < 17592186044416) :
    Calls Tryz.prog 22 #[.int .i64 r, .int .i64 c, .slice a (items r c (mvals c qs)).length cap] w fun e w' => (∃ v, e = .returned (.tuple #[v, .int .i64 0]) ∧ SpM w' v r c (mvals c qs)) ∧ Below w.heap.size w w' := by
  have h := of_ok (j := j) w r c a cap _ hI hr hc (by rw [List.length_map]; exact hl) (items_szk hz r) (by rw [List.length_map]; exact hcap)
  rw [List.length_map] at h
  refine h.mono ?_
  rintro e w' ⟨⟨_, v, rfl, hv⟩ | ⟨hb, _⟩, hbel⟩
  · refine ⟨⟨v, rfl, SpN.m (SpN.congr hv fun i k hi hk => ?_)⟩, hbel⟩
    rw [toN_toI]
    exact foldA_items r c _ hi hk
  · rw [items_ok] at hb; cases hb
theorem itemNeq_self (i k A1 A4 : Int) (A2 A5 : ByteArray) (A3 : Bool) (w : World) : (binOp .neq 60 (.agg #[.int .i64 i, .int .i64 k, .int .u64 A1, .string A2, .bool A3, .int .u64 A4, .string A5]) (.agg #[.int .i64 i, .int .i64 k, .int .u64 A1, .string A2, .bool A3, .int .u64 A4, .string A5])).run Tryz.prog w = .ok (.bool false) w := by
  simp [go_sem]
end Gus
end
section
/- gussetlaw16.small on one matrix; gussetlaw16.SparsesParts where the arguments are too long. -/
namespace Gus
open Go Go.RowKit Go.Proofs
set_option maxRecDepth 100000 in
set_option maxHeartbeats 2000000 in
theorem small_one (w : World) (b : Nat) (T : TypeId) (R0 C0 : Int) (a : Option Addr) (la ca : Nat) (hla : la < 9223372036854775808) (hB : Bx w b T [.int .u8 R0, .int .u8 C0, .slice a la ca]) :
    Calls Tryz.prog 24 #[.slice (some ⟨b, 0, none⟩) 1 1] w fun e w' => e = .returned (.bool (decide (la ≤ 40))) ∧ Below w.heap.size w w' := by
  have hlt := hB.lt
  have e2 : w.cell? ⟨b, 2, none⟩ = some (.slice a la ca) := hB.cell 2
  clear hB
  have hbel := Below.refl w.heap.size w
  by_cases h1 : la ≤ 40
  · have k1 : ¬ ((40 : Int) < la) := by omega
    go_enter Tryz.func24, Tryz.ntmps24
    go_wp2_with fail
    go_rounds 2
    exact bodyPost_ret (v := .bool true) (by simp [results, Tryz.results24, go_sem, *]) rfl ⟨by simp [h1], hbel⟩
  · have k1 : (40 : Int) < la := by omega
    go_enter Tryz.func24, Tryz.ntmps24
    go_wp2_with fail
    go_rounds 2
    exact bodyPost_ret (v := .bool false) (by simp [results, Tryz.results24, go_sem, *]) rfl ⟨by simp [h1], hbel⟩
set_option maxRecDepth 100000 in
set_option maxHeartbeats 2000000 in
theorem parts_large (w : World) (R0 C0 : Nat) (a b d : Option Addr) (ca cb cd la lb ld : Nat) (i k : Int) (hla : la < 9223372036854775808) (hs : ¬ (la ≤ 40 ∧ lb ≤ 8 ∧ ld ≤ 8)) :
    Calls Tryz.prog 6 #[.agg #[.int .u8 R0, .int .u8 C0, .slice a la ca], .slice b lb cb, .slice d ld cd, .int .i64 i, .int .i64 k] w fun e w' => e = .returned (.bool true) ∧ Below w.heap.size w w' := by
  have c0 := fun W b1 T h => small_one W b1 T R0 C0 a la ca hla h
  have c1 := works_any
  obtain ⟨X, hX⟩ : ∃ X, X = w.heap.size := ⟨_, rfl⟩
  have HX := Lib.hid hX
  obtain ⟨p, hp⟩ : ∃ p, p = decide (la ≤ 40) := ⟨_, rfl⟩
  rw [← hp] at c0
  have hs2 : p = true → ¬ (lb ≤ 8 ∧ ld ≤ 8) := fun h h2 => hs ⟨of_decide_eq_true (hp.symm.trans h), h2⟩
  have HS := Lib.hid hs2
  clear hs hs2 hla hX hp
  go_enter Tryz.func6, Tryz.ntmps6
  go_wp2_with fail
  ((with_reducible refine (c0 _ _ 74 ?_).mono ?_))
  · exact Bx.new_at _ _ _ (by simp)
  rintro e w1 ⟨rfl, hb⟩
  have hin := (((In.self w).alloc _).alloc _).call hb
  clear hb c0
  rcases p with _ | _
  · go_wp2_with fail
    ((with_reducible refine (c1 _).mono ?_))
    rintro e w2 ⟨rfl, hb⟩
    replace hin := hin.call hb
    clear hb c1
    go_wp2_with fail
    go_ret
    exact ⟨rfl, hin.bel⟩
  · by_cases h8 : lb ≤ 8
    · have k1 : ¬ (8 : Int) < lb := by omega
      have k2 : (8 : Int) < ld := by have := HS.out rfl; omega
      go_wp2_with fail
      ((with_reducible refine (c1 _).mono ?_))
      rintro e w2 ⟨rfl, hb⟩
      replace hin := hin.call hb
      clear hb c1
      go_wp2_with fail
      go_ret
      exact ⟨rfl, hin.bel⟩
    · have k1 : (8 : Int) < lb := by omega
      go_wp2_with fail
      ((with_reducible refine (c1 _).mono ?_))
      rintro e w2 ⟨rfl, hb⟩
      replace hin := hin.call hb
      clear hb c1
      go_wp2_with fail
      go_ret
      exact ⟨rfl, hin.bel⟩
end Gus
end
section
/- gussetlaw16.SparsesParts. -/
namespace Gus
open Go Go.RowKit Go.Proofs
theorem atV_shape (r c : Nat) (f : Nat → Nat → Rat) (i k : Int) : ∃ A1 A2 A3 A4 A5, (atV r c f i k).1 = .agg #[.int .u64 A1, .string A2, .bool A3, .int .u64 A4, .string A5] := by
  unfold atV
  split
  · exact ⟨_, _, _, _, _, rfl⟩
  · exact ⟨_, _, _, _, _, rfl⟩
theorem fracNeq_self (A1 A4 : Int) (A2 A5 : ByteArray) (A3 : Bool) (w : World) : (binOp .neq 56 (.agg #[.int .u64 A1, .string A2, .bool A3, .int .u64 A4, .string A5]) (.agg #[.int .u64 A1, .string A2, .bool A3, .int .u64 A4, .string A5])).run Tryz.prog w = .ok (.bool false) w := by
  simp [go_sem]
set_option maxRecDepth 100000 in
set_option maxHeartbeats 8000000 in
theorem parts_small (w : World) (R0 C0 : Nat) (hR0 : R0 < 256) (hC0 : C0 < 256) (a b d : Option Addr) (ca cb cd : Nat) (qa : List (Int × Int)) (xs ys : List Int) (i k : Int) (hqa : QAt w a qa) (hoa : QOk qa) (hla : qa.length ≤ 40) (hxs : IntsAt w b xs) (hys : IntsAt w d ys) (hlb : xs.length ≤ 8) (hld : ys.length ≤ 8) :
    Calls Tryz.prog 6 #[.agg #[.int .u8 R0, .int .u8 C0, .slice a qa.length ca], .slice b xs.length cb, .slice d ys.length cd, .int .i64 i, .int .i64 k] w fun e w' => e = .returned (.bool true) ∧ Below w.heap.size w w' := by
  have c0 := fun W b1 T h => small_one W b1 T R0 C0 a qa.length ca (by omega) h
  rw [show decide (qa.length ≤ 40) = true by simpa using hla] at c0
  have cz := works_any
  have c1 := fun W (h : QAt W a qa) => mof_any W R0 C0 hR0 hC0 a ca qa h hoa (by omega)
  obtain ⟨la, hLa⟩ : ∃ la, la = qa.length := ⟨_, rfl⟩
  rw [← hLa] at c0 c1 ⊢
  obtain ⟨r, hr⟩ : ∃ r, r = R0 % 7 := ⟨_, rfl⟩
  obtain ⟨c, hcc⟩ : ∃ c, c = C0 % 7 := ⟨_, rfl⟩
  rw [← hr, ← hcc] at c1
  obtain ⟨zs, hzs⟩ : ∃ zs, zs = mList qa (r * c) := ⟨_, rfl⟩
  rw [← hzs] at c1
  have hzl : zs.length = r * c := by rw [hzs, mList_length]
  have hzx : ∀ i, SzK 128 (zs.getD i 0) := fun i => by rw [hzs]; exact mList_szk hoa _ _
  have hr6 : r ≤ 6 := by omega
  have hc6 : c ≤ 6 := by omega
  have hrc : r * c ≤ 36 := Nat.mul_le_mul hr6 hc6
  have hxy : xs.length * ys.length ≤ 64 := Nat.mul_le_mul hlb hld
  have c2 := fun W v (h : MatAt W v r c zs) => lof_any (j := 128) W v r c zs h (by omega) (by omega) hzx (by omega)
  have c3 := fun W v (h : SpM W v r c (mvals c zs)) (h2 : IntsAt W b xs) (h3 : IntsAt W d ys) => spart_res (j := 128) W v r c (mvals c zs) h (by omega) (by omega) b d cb cd xs ys h2 h3 (by omega) (by omega) (fun i k => hzx _) (by omega)
  have c4 := fun W v (h : MatAt W v r c zs) (h2 : IntsAt W b xs) (h3 : IntsAt W d ys) => mpart_res W v r c zs h (by omega) (by omega) b d cb cd xs ys h2 h3 (by omega) (by omega)
  have c5 := fun W v (h : SpM W v r c (mvals c zs)) => satt_any W v r c (mvals c zs) h (by omega) (by omega) i k
  have c6 := fun W v (h : MatAt W v r c zs) => matt_any W v r c zs h (by omega) (by omega) i k
  obtain ⟨A1, A2, A3, A4, A5, hA⟩ := atV_shape r c (mvals c zs) i k
  rw [hA] at c5 c6
  obtain ⟨found, hfd⟩ : ∃ z, z = (atV r c (mvals c zs) i k).2 := ⟨_, rfl⟩
  rw [← hfd] at c5 c6
  have c7 := fun W v (h : SpM W v r c (mvals c zs)) => sdiag_any W v r c (mvals c zs) h (by omega) (by omega)
  obtain ⟨lb, hLb⟩ : ∃ lb, lb = xs.length := ⟨_, rfl⟩
  obtain ⟨ld, hLd⟩ : ∃ ld, ld = ys.length := ⟨_, rfl⟩
  obtain ⟨bad, hbad⟩ : ∃ z, z = (xs.any (outI r) || ys.any (outI c)) := ⟨_, rfl⟩
  rw [← hbad] at c3 c4
  rw [← hLb] at c3 c4 hlb ⊢
  rw [← hLd] at c3 c4 hld ⊢
  obtain ⟨F, hF⟩ : ∃ F, F = partF (mvals c zs) xs ys := ⟨_, rfl⟩
  rw [← hF] at c3 c4
  have c8 := fun W s m e f (h1 : PRes bad lb ld F W s e) (h2 : DRes bad lb ld F W m f) => eq_res h1 h2 (by omega) (by omega)
  have k1 : ¬ (8 : Int) < lb := by omega
  have k2 : ¬ (8 : Int) < ld := by omega
  have cq := fun W => fracNeq_self A1 A4 A2 A5 A3 W
  have HB := Lib.hid (And.intro hr6 (And.intro hc6 hrc))
  have HZL := Lib.hid hzl
  have HZX := Lib.hid hzx
  clear hr hcc hzs hzl hzx hr6 hc6 hrc hxy hLa hLb hLd hbad hF hA hfd hoa hla
  obtain ⟨X, hX⟩ : ∃ X, X = w.heap.size := ⟨_, rfl⟩
  have HX := Lib.hid hX
  go_enter Tryz.func6, Tryz.ntmps6
  go_wp2_with fail
  ((with_reducible refine (c0 _ _ 74 ?_).mono ?_))
  · exact Bx.new_at _ _ _ (by simp)
  rintro e w1 ⟨rfl, hb⟩
  have hin := (((In.self w).alloc (.cells #[.int .u8 R0, .int .u8 C0, .slice a la ca] 74)).alloc (.cells #[.int .u8 R0, .int .u8 C0, .slice a la ca] 74)).call hb
  have ba := ((Bx.new_at w #[.int .u8 R0, .int .u8 C0, .slice a la ca] 74 hX).alloc (.cells #[.int .u8 R0, .int .u8 C0, .slice a la ca] 74)).call hb
  replace hqa := hqa.call hin.bel
  replace hxs := hxs.call hin.bel
  replace hys := hys.call hin.bel
  rw [← hX]
  clear hX hb c0
  have a0 := ba.c0
  have a1 := ba.c1
  have a2 := ba.c2
  have al := ba.lt
  go_wp2_with fail
  ((with_reducible refine (c1 _ hqa).mono ?_))
  rintro e w2 ⟨⟨x, rfl, hm⟩, hb⟩
  replace hin := hin.call hb
  replace hxs := hxs.call hb
  replace hys := hys.call hb
  clear hb c1 ba a0 a1 a2 al hqa
  obtain ⟨ax, kx, rfl⟩ := hm.shape
  obtain ⟨L, hL⟩ : ∃ L, L = zs.length := ⟨_, rfl⟩
  rw [← hL] at hm ⊢
  have HL := Lib.hid hL
  clear hL
  go_upto_region 4 with fail
  obtain ⟨S1, hS1⟩ : ∃ z, z = w2.heap.size := ⟨_, rfl⟩
  have bS1 := Bx.new_at w2 #[.int .i64 r, .int .i64 c, .slice ax L kx] 78 hS1
  replace hin := hin.alloc (.cells #[.int .i64 r, .int .i64 c, .slice ax L kx] 78)
  replace hxs := hxs.call ((Below.refl _ _).alloc (Nat.le_refl _) (.cells #[.int .i64 r, .int .i64 c, .slice ax L kx] 78))
  replace hys := hys.call ((Below.refl _ _).alloc (Nat.le_refl _) (.cells #[.int .i64 r, .int .i64 c, .slice ax L kx] 78))
  replace hm := hm.call ((Below.refl _ _).alloc (Nat.le_refl _) (.cells #[.int .i64 r, .int .i64 c, .slice ax L kx] 78))
  rw [← hS1]
  clear hS1
  generalize w2.alloc (.cells #[.int .i64 r, .int .i64 c, .slice ax L kx] 78) = W2 at *
  have x0 := bS1.c0
  have x1 := bS1.c1
  have x2 := bS1.c2
  have xl := bS1.lt
  go_wp2_with fail
  ((with_reducible refine (c2 _ _ hm).mono ?_))
  rintro e w3 ⟨⟨s, rfl, hs⟩, hb⟩
  replace hin := hin.call hb
  replace hxs := hxs.call hb
  replace hys := hys.call hb
  replace hm := hm.call hb
  replace bS1 := bS1.call hb
  clear hb c2 x0 x1 x2 xl
  replace hs := hs.m
  obtain ⟨sa, ks, rfl⟩ := hs.shape
  go_upto_region 5 with fail
  obtain ⟨S2, hS2⟩ : ∃ z, z = w3.heap.size := ⟨_, rfl⟩
  have bS2 := Bx.new_at w3 #[.int .i64 r, .int .i64 c, .slice sa r ks] 63 hS2
  replace hin := hin.alloc (.cells #[.int .i64 r, .int .i64 c, .slice sa r ks] 63)
  replace hxs := hxs.call ((Below.refl _ _).alloc (Nat.le_refl _) (.cells #[.int .i64 r, .int .i64 c, .slice sa r ks] 63))
  replace hys := hys.call ((Below.refl _ _).alloc (Nat.le_refl _) (.cells #[.int .i64 r, .int .i64 c, .slice sa r ks] 63))
  replace hm := hm.call ((Below.refl _ _).alloc (Nat.le_refl _) (.cells #[.int .i64 r, .int .i64 c, .slice sa r ks] 63))
  replace bS1 := bS1.alloc (.cells #[.int .i64 r, .int .i64 c, .slice sa r ks] 63)
  replace hs := hs.call ((Below.refl _ _).alloc (Nat.le_refl _) (.cells #[.int .i64 r, .int .i64 c, .slice sa r ks] 63))
  rw [← hS2]
  clear hS2
  generalize w3.alloc (.cells #[.int .i64 r, .int .i64 c, .slice sa r ks] 63) = W3 at *
  have x0 := bS2.c0
  have x1 := bS2.c1
  have x2 := bS2.c2
  have xl := bS2.lt
  go_wp2_with fail
  ((with_reducible refine (c3 _ _ hs hxs hys).mono ?_))
  rintro e w4 ⟨⟨pv, pe, rfl, hp⟩, hb⟩
  replace hin := hin.call hb
  replace hxs := hxs.call hb
  replace hys := hys.call hb
  replace hm := hm.call hb
  replace bS1 := bS1.call hb
  replace hs := hs.call hb
  replace bS2 := bS2.call hb
  clear hb c3 x0 x1 x2 xl
  obtain ⟨pn, pm, pa, pl, pk, rfl⟩ := hp.1
  go_upto_region 6 with fail
  obtain ⟨S3, hS3⟩ : ∃ z, z = w4.heap.size := ⟨_, rfl⟩
  have bS3 := Bx.new_at w4 #[.int .i64 pn, .int .i64 pm, .slice pa pl pk] 63 hS3
  replace hin := hin.alloc (.cells #[.int .i64 pn, .int .i64 pm, .slice pa pl pk] 63)
  replace hxs := hxs.call ((Below.refl _ _).alloc (Nat.le_refl _) (.cells #[.int .i64 pn, .int .i64 pm, .slice pa pl pk] 63))
  replace hys := hys.call ((Below.refl _ _).alloc (Nat.le_refl _) (.cells #[.int .i64 pn, .int .i64 pm, .slice pa pl pk] 63))
  replace hm := hm.call ((Below.refl _ _).alloc (Nat.le_refl _) (.cells #[.int .i64 pn, .int .i64 pm, .slice pa pl pk] 63))
  replace bS1 := bS1.alloc (.cells #[.int .i64 pn, .int .i64 pm, .slice pa pl pk] 63)
  replace hs := hs.call ((Below.refl _ _).alloc (Nat.le_refl _) (.cells #[.int .i64 pn, .int .i64 pm, .slice pa pl pk] 63))
  replace bS2 := bS2.alloc (.cells #[.int .i64 pn, .int .i64 pm, .slice pa pl pk] 63)
  replace hp := hp.call ((Below.refl _ _).alloc (Nat.le_refl _) (.cells #[.int .i64 pn, .int .i64 pm, .slice pa pl pk] 63))
  rw [← hS3]
  clear hS3
  generalize w4.alloc (.cells #[.int .i64 pn, .int .i64 pm, .slice pa pl pk] 63) = W4 at *
  have x0 := bS1.c0
  have x1 := bS1.c1
  have x2 := bS1.c2
  have xl := bS1.lt
  go_wp2_with fail
  ((with_reducible refine (c4 _ _ hm hxs hys).mono ?_))
  rintro e w5 ⟨⟨dv, de, rfl, hd⟩, hb⟩
  replace hin := hin.call hb
  replace hxs := hxs.call hb
  replace hys := hys.call hb
  replace hm := hm.call hb
  replace bS1 := bS1.call hb
  replace hs := hs.call hb
  replace bS2 := bS2.call hb
  replace hp := hp.call hb
  replace bS3 := bS3.call hb
  clear hb c4 x0 x1 x2 xl
  obtain ⟨dn, dm, da, dl, dk, rfl⟩ := hd.1
  clear hxs hys
  go_upto_region 7 with fail
  obtain ⟨S4, hS4⟩ : ∃ z, z = w5.heap.size := ⟨_, rfl⟩
  have bS4 := Bx.new_at w5 #[.int .i64 dn, .int .i64 dm, .slice da dl dk] 78 hS4
  replace hin := hin.alloc (.cells #[.int .i64 dn, .int .i64 dm, .slice da dl dk] 78)
  replace hm := hm.call ((Below.refl _ _).alloc (Nat.le_refl _) (.cells #[.int .i64 dn, .int .i64 dm, .slice da dl dk] 78))
  replace bS1 := bS1.alloc (.cells #[.int .i64 dn, .int .i64 dm, .slice da dl dk] 78)
  replace hs := hs.call ((Below.refl _ _).alloc (Nat.le_refl _) (.cells #[.int .i64 dn, .int .i64 dm, .slice da dl dk] 78))
  replace bS2 := bS2.alloc (.cells #[.int .i64 dn, .int .i64 dm, .slice da dl dk] 78)
  replace hp := hp.call ((Below.refl _ _).alloc (Nat.le_refl _) (.cells #[.int .i64 dn, .int .i64 dm, .slice da dl dk] 78))
  replace bS3 := bS3.alloc (.cells #[.int .i64 dn, .int .i64 dm, .slice da dl dk] 78)
  replace hd := hd.call ((Below.refl _ _).alloc (Nat.le_refl _) (.cells #[.int .i64 dn, .int .i64 dm, .slice da dl dk] 78))
  rw [← hS4]
  clear hS4
  generalize w5.alloc (.cells #[.int .i64 dn, .int .i64 dm, .slice da dl dk] 78) = W5 at *
  have x0 := bS2.c0
  have x1 := bS2.c1
  have x2 := bS2.c2
  have xl := bS2.lt
  go_wp2_with fail
  ((with_reducible refine (c5 _ _ hs).mono ?_))
  rintro e w6 ⟨rfl, hb⟩
  replace hin := hin.call hb
  replace hm := hm.call hb
  replace bS1 := bS1.call hb
  replace hs := hs.call hb
  replace bS2 := bS2.call hb
  replace hp := hp.call hb
  replace bS3 := bS3.call hb
  replace hd := hd.call hb
  replace bS4 := bS4.call hb
  clear hb c5 x0 x1 x2 xl
  go_upto_region 8 with fail
  obtain ⟨S5, hS5⟩ : ∃ z, z = w6.heap.size := ⟨_, rfl⟩
  have bS5 := Bx.new_at w6 #[.int .u64 A1, .string A2, .bool A3, .int .u64 A4, .string A5] 56 hS5
  replace hin := hin.alloc (.cells #[.int .u64 A1, .string A2, .bool A3, .int .u64 A4, .string A5] 56)
  replace hm := hm.call ((Below.refl _ _).alloc (Nat.le_refl _) (.cells #[.int .u64 A1, .string A2, .bool A3, .int .u64 A4, .string A5] 56))
  replace bS1 := bS1.alloc (.cells #[.int .u64 A1, .string A2, .bool A3, .int .u64 A4, .string A5] 56)
  replace hs := hs.call ((Below.refl _ _).alloc (Nat.le_refl _) (.cells #[.int .u64 A1, .string A2, .bool A3, .int .u64 A4, .string A5] 56))
  replace bS2 := bS2.alloc (.cells #[.int .u64 A1, .string A2, .bool A3, .int .u64 A4, .string A5] 56)
  replace hp := hp.call ((Below.refl _ _).alloc (Nat.le_refl _) (.cells #[.int .u64 A1, .string A2, .bool A3, .int .u64 A4, .string A5] 56))
  replace bS3 := bS3.alloc (.cells #[.int .u64 A1, .string A2, .bool A3, .int .u64 A4, .string A5] 56)
  replace hd := hd.call ((Below.refl _ _).alloc (Nat.le_refl _) (.cells #[.int .u64 A1, .string A2, .bool A3, .int .u64 A4, .string A5] 56))
  replace bS4 := bS4.alloc (.cells #[.int .u64 A1, .string A2, .bool A3, .int .u64 A4, .string A5] 56)
  rw [← hS5]
  clear hS5
  generalize w6.alloc (.cells #[.int .u64 A1, .string A2, .bool A3, .int .u64 A4, .string A5] 56) = W6 at *
  have x0 := bS1.c0
  have x1 := bS1.c1
  have x2 := bS1.c2
  have xl := bS1.lt
  go_wp2_with fail
  ((with_reducible refine (c6 _ _ hm).mono ?_))
  rintro e w7 ⟨rfl, hb⟩
  replace hin := hin.call hb
  replace hm := hm.call hb
  replace bS1 := bS1.call hb
  replace hs := hs.call hb
  replace bS2 := bS2.call hb
  replace hp := hp.call hb
  replace bS3 := bS3.call hb
  replace hd := hd.call hb
  replace bS4 := bS4.call hb
  replace bS5 := bS5.call hb
  clear hb c6 x0 x1 x2 xl
  go_upto_region 9 with fail
  obtain ⟨S6, hS6⟩ : ∃ z, z = w7.heap.size := ⟨_, rfl⟩
  have bS6 := Bx.new_at w7 #[.int .u64 A1, .string A2, .bool A3, .int .u64 A4, .string A5] 56 hS6
  replace hin := hin.alloc (.cells #[.int .u64 A1, .string A2, .bool A3, .int .u64 A4, .string A5] 56)
  replace hm := hm.call ((Below.refl _ _).alloc (Nat.le_refl _) (.cells #[.int .u64 A1, .string A2, .bool A3, .int .u64 A4, .string A5] 56))
  replace bS1 := bS1.alloc (.cells #[.int .u64 A1, .string A2, .bool A3, .int .u64 A4, .string A5] 56)
  replace hs := hs.call ((Below.refl _ _).alloc (Nat.le_refl _) (.cells #[.int .u64 A1, .string A2, .bool A3, .int .u64 A4, .string A5] 56))
  replace bS2 := bS2.alloc (.cells #[.int .u64 A1, .string A2, .bool A3, .int .u64 A4, .string A5] 56)
  replace hp := hp.call ((Below.refl _ _).alloc (Nat.le_refl _) (.cells #[.int .u64 A1, .string A2, .bool A3, .int .u64 A4, .string A5] 56))
  replace bS3 := bS3.alloc (.cells #[.int .u64 A1, .string A2, .bool A3, .int .u64 A4, .string A5] 56)
  replace hd := hd.call ((Below.refl _ _).alloc (Nat.le_refl _) (.cells #[.int .u64 A1, .string A2, .bool A3, .int .u64 A4, .string A5] 56))
  replace bS4 := bS4.alloc (.cells #[.int .u64 A1, .string A2, .bool A3, .int .u64 A4, .string A5] 56)
  replace bS5 := bS5.alloc (.cells #[.int .u64 A1, .string A2, .bool A3, .int .u64 A4, .string A5] 56)
  rw [← hS6]
  clear hS6
  generalize w7.alloc (.cells #[.int .u64 A1, .string A2, .bool A3, .int .u64 A4, .string A5] 56) = W7 at *
  have x0 := bS2.c0
  have x1 := bS2.c1
  have x2 := bS2.c2
  have xl := bS2.lt
  go_wp2_with fail
  ((with_reducible refine (c7 _ _ hs).mono ?_))
  rintro e w8 ⟨⟨g, rfl, hg⟩, hb⟩
  replace hin := hin.call hb
  replace hm := hm.call hb
  replace bS1 := bS1.call hb
  replace hs := hs.call hb
  replace bS2 := bS2.call hb
  replace hp := hp.call hb
  replace bS3 := bS3.call hb
  replace hd := hd.call hb
  replace bS4 := bS4.call hb
  replace bS5 := bS5.call hb
  replace bS6 := bS6.call hb
  clear hb c7 x0 x1 x2 xl
  obtain ⟨ga, gk, rfl⟩ := hg.shape
  obtain ⟨gs, hgs⟩ : ∃ gs, gs = (List.range (min r c)).map fun i => mvals c zs i i := ⟨_, rfl⟩
  obtain ⟨n, hn⟩ : ∃ n, n = min r c := ⟨_, rfl⟩
  have hgl : gs.length = n := by rw [hgs, hn]; simp
  have hmin : min (r : Int) c = (n : Int) := by omega
  rw [← hgs] at hg ⊢
  rw [hgl]
  have HG := Lib.hid hgs
  have HN := Lib.hid hn
  have HGL := Lib.hid hgl
  clear hgs hn hgl
  go_upto_region 10 with fail
  have p0 := bS3.c0
  have p1 := bS3.c1
  have p2 := bS3.c2
  have pl := bS3.lt
  have q0 := bS4.c0
  have q1 := bS4.c1
  have q2 := bS4.c2
  have ql := bS4.lt
  go_wp2_with fail
  ((with_reducible refine (c8 _ _ _ _ _ hp hd).mono ?_))
  rintro e w9 ⟨rfl, hb⟩
  replace hin := hin.call hb
  replace hm := hm.call hb
  replace bS1 := bS1.call hb
  replace hs := hs.call hb
  replace bS2 := bS2.call hb
  replace hp := hp.call hb
  replace bS3 := bS3.call hb
  replace hd := hd.call hb
  replace bS4 := bS4.call hb
  replace bS5 := bS5.call hb
  replace bS6 := bS6.call hb
  replace hg := hg.call hb
  clear hb c8 p0 p1 p2 pl q0 q1 q2 ql
  clear hp hd bS3 bS4
  have p0 := bS5.c0
  have p1 := bS5.c1
  have p2 := bS5.c2
  have p3 := bS5.c3
  have p4 := bS5.c4
  have pl := bS5.lt
  have q0 := bS6.c0
  have q1 := bS6.c1
  have q2 := bS6.c2
  have q3 := bS6.c3
  have q4 := bS6.c4
  have ql := bS6.lt
  have x0 := bS1.c0
  have x1 := bS1.c1
  have xl := bS1.lt
  go_wp2_with fail
  clear p0 p1 p2 p3 p4 pl q0 q1 q2 q3 q4 ql x0 x1 xl cq hmin k1 k2
  have HK := Lib.hid (And.intro hin (And.intro hm (And.intro hs (And.intro hg bS1))))
  have bS2' := Lib.hid bS2
  clear hin hm hs hg bS1 bS2 bS5 bS6
  go_loopw [23] (fun v23 wr => ∃ p : Nat, p ≤ n ∧ v23 = .int .i64 p ∧ Below w9.heap.size w9 wr) (fun v23 _ => n - (RowKit.intOf v23).toNat)
  case atStart => exact ⟨0, Nat.zero_le _, rfl, Below.refl _ _⟩
  case round =>
    obtain ⟨p, hp, rfl, hbel⟩ := hrel
    by_cases hpn : p < n
    · have hpI : (p : Int) < n := by omega
      have hp0 : (0 : Int) ≤ p := by omega
      obtain ⟨hin, hm, hs, hg, bS1⟩ := HK.out
      have hpr : p < r := by have := HN.out; omega
      have hpc : p < c := by have := HN.out; omega
      have hrc := HB.out.2.2
      obtain ⟨t, ht⟩ : ∃ t, t = p * c + p := ⟨_, rfl⟩
      obtain ⟨d0, hd0⟩ : ∃ d, d = p * c := ⟨_, rfl⟩
      have htl : t < r * c := by rw [ht]; exact pos_lt hpr hpc
      have hw1 : IntKind.i64.wrap ((p : Int) * c) = (d0 : Int) := by rw [hd0, ← Int.natCast_mul]; exact IntWalk.i64_in _ (by omega)
      have hw2 : IntKind.i64.wrap ((d0 : Int) + p) = (t : Int) := by rw [ht, hd0, ← Int.natCast_add]; exact IntWalk.i64_in _ (by omega)
      have hpw : IntKind.i64.wrap ((p : Int) + 1) = ((p + 1 : Nat) : Int) := IntWalk.i64_in _ (by omega)
      obtain ⟨vx, ev, _, hvx⟩ := hm
      simp only [Value.agg.injEq] at ev
      have ev2 := congrArg Array.toList ev
      simp only [List.cons.injEq, and_true, true_and] at ev2
      subst ev2
      obtain ⟨b1, o1, _, B1, B2, B3, B4, B5, e1, hb1, hf1, _, y0, y1, y2, y3, y4⟩ := (hg.call hbel).at (i := p) (by rw [HGL.out]; exact hpn)
      obtain ⟨b2, o2, _, D1, D2, D3, D4, D5, e2, hb2, hf2, _, z0, z1, z2, z3, z4⟩ := (hvx.call hbel).at (i := t) (by rw [HZL.out]; exact htl)
      have eg : gs.getD p 0 = zs.getD t 0 := by
        rw [HG.out, List.getD_eq_getElem?_getD, List.getElem?_map, List.getElem?_range (by rw [← HN.out]; exact hpn), ht]; rfl
      rw [eg, hf2] at hf1
      simp only [List.cons.injEq, Value.int.injEq, Value.string.injEq, Value.bool.injEq, true_and, and_true] at hf1
      obtain ⟨rfl, rfl, rfl, rfl, rfl⟩ := hf1
      simp only [Value.slice.injEq] at e1 e2
      obtain ⟨rfl, _, _⟩ := e1
      obtain ⟨rfl, hLz, _⟩ := e2
      have cq := fun W => fracNeq_self D1 D4 D2 D5 D3 W
      have bS1r := bS1.call hbel
      have x1 := bS1r.c1
      have x2 := bS1r.c2
      have xl := bS1r.lt
      have htI : (t : Int) < L := by rw [hLz, HZL.out]; omega
      have ht0 : (0 : Int) ≤ t := by omega
      clear hin hs hg bS1 hf2 eg hvx ev ht hd0 bS1r hLz
      go_upto_region 15 with fail
      have h := In.self wr
      have hc := h.cell
      refine wp_region_flow 14 (by kernel_rfl) (by kernel_rfl) (fun _ _ d _ _ h => by cases d <;> exact h) ?_; simp only [List.take_succ_cons, List.take_zero, List.drop_succ_cons, List.drop_zero]; simp only [putAll, Act.put, List.setIfInBounds_toArray, List.set]; (try simp only [Nat.reduceAdd]); (try simp only [Nat.zero_add]); (repeat (first | ((with_reducible refine flow_float (v := ?_) ?_ ?_ ?_); rotate_left 1; (focus (with_reducible rfl)); (focus (intro u w1 hw hd w2; (try simp only [depH] at hd); (try simp only [ext] at hd); (try simp only [Nat.reduceAdd] at hd); (try simp only [Nat.reduceEqDiff] at hd); (try simp only [reduceIte] at hd); (try simp only [if_true] at hd); (try simp only [if_false] at hd); (try simp only [and_true] at hd); (try simp only [true_and] at hd); go_simp; exact rfl))) | ((with_reducible refine flow_pure0 (v := ?_) ?_ ?_ ?_ ?_); rotate_left 1; (focus (with_reducible rfl)); (focus rfl); (focus (intro u w1 hw hd; (try simp only [depH] at hd); (try simp only [ext] at hd); (try simp only [Nat.reduceAdd] at hd); (try simp only [Nat.reduceEqDiff] at hd); (try simp only [reduceIte] at hd); (try simp only [if_true] at hd); (try simp only [if_false] at hd); (try simp only [and_true] at hd); (try simp only [true_and] at hd); have hc' := hw.cell; go_simp; exact rfl))) | ((with_reducible refine flow_skipg (j := ?_) (b := ?_) ?_ ?_ ?_); rotate_left 2; (focus (with_reducible rfl)); (focus (intro u w1 hw hd; (try simp only [depH] at hd); (try simp only [ext] at hd); (try simp only [Nat.reduceAdd] at hd); (try simp only [Nat.reduceEqDiff] at hd); (try simp only [reduceIte] at hd); (try simp only [if_true] at hd); (try simp only [if_false] at hd); (try simp only [and_true] at hd); (try simp only [true_and] at hd); simp [yielded, hd]; done))) | ((with_reducible refine flow_pureg (v := ?_) (j := ?_) (b := ?_) ?_ ?_ ?_ ?_); rotate_left 3; (focus (with_reducible rfl)); (focus (intro u w1 hw hd; (try simp only [depH] at hd); (try simp only [ext] at hd); (try simp only [Nat.reduceAdd] at hd); (try simp only [Nat.reduceEqDiff] at hd); (try simp only [reduceIte] at hd); (try simp only [if_true] at hd); (try simp only [if_false] at hd); (try simp only [and_true] at hd); (try simp only [true_and] at hd); simp [yielded, hd]; done)); (focus (intro u w1 hw hd; (try simp only [depH] at hd); (try simp only [ext] at hd); (try simp only [Nat.reduceAdd] at hd); (try simp only [Nat.reduceEqDiff] at hd); (try simp only [reduceIte] at hd); (try simp only [if_true] at hd); (try simp only [if_false] at hd); (try simp only [and_true] at hd); (try simp only [true_and] at hd); have hc' := hw.cell; go_simp; exact rfl))) | ((with_reducible refine flow_alloc (t := ?_) (zs := ?_) ?_ ?_ ?_ ?_); rotate_left 2; (focus (with_reducible rfl)); (focus rfl); (focus (intro u w1; go_simp; exact rfl)))))
      (try clear hc hf h); intro u w' h ha hdi; replace h := h.ins; (try simp only [World.size_alloc] at h); (try dsimp only at ha); (repeat rw [World.size_alloc] at ha); (try simp only [allH] at ha); (try simp only [ext] at ha); (try simp only [Nat.reduceAdd] at ha); (try simp only [Nat.reduceEqDiff] at ha); (try simp only [reduceIte] at ha); (try simp only [if_true] at ha); (try simp only [if_false] at ha); (try simp only [and_true] at ha); (try simp only [true_and] at ha); have hc := h.cell; have hf := h.frozen
      (try obtain ha := ha); (try dsimp only);  simp only [ha]; clear ha hdi 
      have hbel2 := hbel.trans (h.bel.mono hbel.size)
      clear h hc hf x1 x2 xl y0 y1 y2 y3 y4 z0 z1 z2 z3 z4 hb1 hb2
      go_wp2_with fail
      exact ⟨⟨p + 1, by omega, by go_num, hbel2⟩, by simp [RowKit.intOf]; omega⟩
    · have hpI : ¬ (p : Int) < n := by omega
      obtain ⟨hin, hm, hs, hg, bS1⟩ := HK.out
      replace hin := hin.call hbel
      replace hm := hm.call hbel
      replace hs := hs.call hbel
      replace bS1 := bS1.call hbel
      have bS2 := bS2'.out.call hbel
      clear hg HK bS2' hbel
      have c9 := fun W (h : SpM W (.agg #[.int .i64 r, .int .i64 c, .slice sa r ks]) r c (mvals c zs)) => sitems_any W _ r c (mvals c zs) h (by have := HB.out; omega) (by have := HB.out; omega)
      have x0 := bS2.c0
      have x1 := bS2.c1
      have x2 := bS2.c2
      have xl := bS2.lt
      go_wp2_with fail
      ((with_reducible refine (c9 _ hs).mono ?_))
      rintro e w10 ⟨⟨ia, ik, rfl, hit⟩, hb⟩
      replace hin := hin.call hb
      replace hm := hm.call hb
      replace hs := hs.call hb
      replace bS1 := bS1.call hb
      replace bS2 := bS2.call hb
      clear hb c9 x0 x1 x2 xl
      obtain ⟨N2, hN2⟩ : ∃ N2, N2 = (items r c (mvals c zs)).length := ⟨_, rfl⟩
      have c10 := fun W ia ik (h : ItsAt W ia ((items r c (mvals c zs)).map toI)) (hl : N2 ≤ 36) => of_items (j := 128) W r c ia ik zs h (by have := HB.out; omega) (by have := HB.out; omega) (by omega) HZX.out (by omega)
      have c11 := fun W (h : SpM W (.agg #[.int .i64 r, .int .i64 c, .slice sa r ks]) r c (mvals c zs)) => count_ok W _ r c (mvals c zs) h (by have := HB.out; omega) (by have := HB.out; omega)
      rw [← hN2] at c10 c11 ⊢
      have hN36 : N2 ≤ 36 := by
        rw [hN2, items_len]
        exact Nat.le_trans (nzN_le _ _) HB.out.2.2
      have HN2 := Lib.hid (show N2 = nzN zs L by rw [hN2, items_len, HL.out, HZL.out])
      clear hN2 hpI hp
      have HK := Lib.hid (And.intro hin (And.intro hm (And.intro hs (And.intro hit (And.intro bS1 bS2)))))
      have HC10 := Lib.hid c10
      have HC11 := Lib.hid c11
      clear hin hm hs hit bS1 bS2 c10 c11
      go_wp2_with fail
      go_loopw [25, 26] (fun v25 v26 wr => ∃ p : Nat, p ≤ L ∧ v25 = .int .i64 (nzN zs p : Nat) ∧ v26 = .int .i64 p ∧ Below w10.heap.size w10 wr) (fun v25 v26 _ => L - (RowKit.intOf v26).toNat)
      case atStart => exact ⟨0, Nat.zero_le _, rfl, rfl, Below.refl _ _⟩
      case round =>
        obtain ⟨p, hp, rfl, rfl, hbel⟩ := hrel
        by_cases hpL : p < L
        · have hpI : (p : Int) < L := by omega
          have hp0 : (0 : Int) ≤ p := by omega
          obtain ⟨hin, hm, hs, hit, bS1, bS2⟩ := HK.out
          have hpr : p < r * c := by rw [← HZL.out, ← HL.out]; exact hpL
          have hpw : IntKind.i64.wrap ((p : Int) + 1) = ((p + 1 : Nat) : Int) := IntWalk.i64_in _ (by have := HB.out.2.2; omega)
          obtain ⟨vx, ev, _, hvx⟩ := hm
          simp only [Value.agg.injEq] at ev
          have ev2 := congrArg Array.toList ev
          simp only [List.cons.injEq, and_true, true_and] at ev2
          subst ev2
          obtain ⟨b2, o2, _, D1, D2, D3, D4, D5, e2, hb2, hf2, hfv, z0, z1, z2, z3, z4⟩ := (hvx.call hbel).at (i := p) (by rw [← HL.out]; exact hpL)
          simp only [Value.slice.injEq] at e2
          obtain ⟨rfl, _, _⟩ := e2
          obtain ⟨q, hq⟩ : ∃ q, q = zs.getD p 0 := ⟨_, rfl⟩
          rw [← hq] at hf2 hfv
          have ceq : ∀ W, (binOp .eql 56 (.agg #[.int .u64 D1, .string D2, .bool D3, .int .u64 D4, .string D5]) (.agg #[.int .u64 0, .string ⟨#[]⟩, .bool false, .int .u64 0, .string ⟨#[]⟩])).run Tryz.prog W = .ok (.bool (decide (q = 0))) W := fun W => by rw [← hfv]; exact fracEq_run q 0 W
          have bS1r := bS1.call hbel
          have x1 := bS1r.c1
          have x2 := bS1r.c2
          have xl := bS1r.lt
          have hit2 := hit.call hbel
          obtain ⟨m, hmm⟩ : ∃ m, m = nzN zs p := ⟨_, rfl⟩
          rw [← hmm]
          have HMM := Lib.hid hmm
          have HPR := Lib.hid hpr
          have HF2 := Lib.hid hf2
          have HQ := Lib.hid hq
          clear hin hs hit bS1 bS2 bS1r hvx ev hf2 hfv hmm hpr hq
          by_cases hq0 : q = 0
          · rw [decide_eq_true hq0] at ceq
            have HE : Hid (nzN zs (p + 1) = m) := Lib.hid (by
              rw [nzN_succ, ← HMM.out, if_neg]
              · rfl
              · unfold nz; rw [← HQ.out, hq0]; decide)
            clear hq0 hit2
            go_wp2_with fail
            exact ⟨⟨p + 1, by omega, by rw [HE.out], by go_num, hbel⟩, by simp [RowKit.intOf]; omega⟩
          · rw [decide_eq_false hq0] at ceq
            have hnz : nz zs p = true := by unfold nz; rw [← HQ.out]; simpa using hq0
            have HE : Hid (nzN zs (p + 1) = m + 1) := Lib.hid (by rw [nzN_succ, ← HMM.out, if_pos hnz])
            have hmN : m < N2 := by rw [HN2.out, HMM.out]; exact nz_lt zs hpL hnz
            have hat := items_at r c zs HPR.out hnz
            rw [← HMM.out, ← HQ.out] at hat
            have hml : m < (items r c (mvals c zs)).length := (List.getElem?_eq_some_iff.1 hat).1
            obtain ⟨b3, o3, rfl, hb3, hc3⟩ := hit2 m (by rw [List.length_map]; exact hml)
            rw [show ((items r c (mvals c zs)).map toI).getD m (0, 0, 0) = toI (p / c, p % c, q) by rw [List.getD_eq_getElem?_getD, List.getElem?_map, hat]; rfl] at hc3
            obtain ⟨y, hy⟩ : ∃ y, y = p / c := ⟨_, rfl⟩
            obtain ⟨z, hzz⟩ : ∃ z, z = p % c := ⟨_, rfl⟩
            rw [← hy, ← hzz] at hc3
            have hics : ics (toI (y, z, q)) = [.int .i64 y, .int .i64 z, .int .u64 D1, .string D2, .bool D3, .int .u64 D4, .string D5] := by unfold ics toI; rw [HF2.out]
            rw [hics] at hc3
            have w0 := hc3 0 (by decide)
            have w1 := hc3 1 (by decide)
            have w2 := hc3 2 (by decide)
            have w3 := hc3 3 (by decide)
            have w4 := hc3 4 (by decide)
            have w5 := hc3 5 (by decide)
            have w6 := hc3 6 (by decide)
            simp only [List.getElem?_cons_zero, List.getElem?_cons_succ, Nat.add_zero] at w0 w1 w2 w3 w4 w5 w6
            have hyp : y ≤ p := by rw [hy]; exact Nat.div_le_self p c
            have hpc : IntKind.i64.wrap ((p : Int) / c) = (y : Int) := by
              rw [show (p : Int) / c = ((p / c : Nat) : Int) from rfl, ← hy]
              exact IntWalk.i64_in _ (by have := HB.out.2.2; have := HPR.out; omega)
            have hpm : (p : Int).tmod c = (z : Int) := by rw [hzz]; rfl
            have hcn : ¬ c = 0 := fun h => by have := HPR.out; rw [h, Nat.mul_zero] at this; omega
            have hmI : (m : Int) < N2 := by omega
            have hm0 : (0 : Int) ≤ m := by omega
            have hge : ¬ (N2 : Int) ≤ m := by omega
            have hmw : IntKind.i64.wrap ((m : Int) + 1) = ((m + 1 : Nat) : Int) := IntWalk.i64_in _ (by omega)
            have cne := fun W => itemNeq_self y z D1 D4 D2 D5 D3 W
            clear hq0 hit2 hc3 hics hy hzz hyp hat hml hnz
            go_upto_region 23 with fail
            (refine wp_region_all (fun w' => w' = wr.drew) (by kernel_rfl) (by kernel_rfl) rfl ?_; (repeat (first | ((with_reducible refine wpQuiet_run0 (v := ?_) ?_ ?_ ?_); rotate_left 1; (focus (with_reducible rfl)); (focus (rintro _ rfl; go_simp; exact rfl)); (try simp only [Act.put]); (try simp only [List.setIfInBounds_toArray]); (try simp only [List.set])) | ((with_reducible refine wpQuiet_skipg (j := ?_) (b := ?_) ?_ ?_ ?_); rotate_left 2; (focus (with_reducible rfl)); (focus rfl); (try simp only [Act.put]); (try simp only [List.setIfInBounds_toArray]); (try simp only [List.set])) | ((with_reducible refine wpQuiet_rung (v := ?_) (j := ?_) (b := ?_) ?_ ?_ ?_ ?_); rotate_left 3; (focus (with_reducible rfl)); (focus rfl); (focus (rintro _ rfl; go_simp; exact rfl)); (try simp only [Act.put]); (try simp only [List.setIfInBounds_toArray]); (try simp only [List.set])))); refine wpQuiet_nil ?_; rintro _ rfl)
            have hbel2 := hbel.drew
            clear w0 w1 w2 w3 w4 w5 w6 z0 z1 z2 z3 z4 x1 x2 xl hb2 hb3 cne ceq hpc hpm hge
            go_wp2_with fail
            exact ⟨⟨p + 1, by omega, by rw [HE.out]; go_num, by go_num, hbel2⟩, by simp [RowKit.intOf]; omega⟩
        · obtain rfl : p = L := by omega
          have hpI : ¬ (p : Int) < p := by omega
          rw [← HN2.out]
          obtain ⟨hin, hm, hs, hit, bS1, bS2⟩ := HK.out
          replace hin := hin.call hbel
          replace hs := hs.call hbel
          replace hit := hit.call hbel
          replace bS1 := bS1.call hbel
          replace bS2 := bS2.call hbel
          have c10 := HC10.out
          have c11 := HC11.out
          have c12 := fun W v (h1 : SpM W v r c (mvals c zs)) (h2 : SpM W (.agg #[.int .i64 r, .int .i64 c, .slice sa r ks]) r c (mvals c zs)) => ssame_ok h1 h2 (show r ≤ 2048 by have := HB.out; omega) (show c ≤ 2048 by have := HB.out; omega)
          rw [show sameM r c (mvals c zs) r c (mvals c zs) = true from sameM_self (fun _ _ _ _ => rfl)] at c12
          have x0 := bS1.c0
          have x1 := bS1.c1
          have x2 := bS1.c2
          have xl := bS1.lt
          clear hm bS1 HK hbel HC10 HC11
          go_wp2_with fail
          ((with_reducible refine (c10 _ _ _ hit hN36).mono ?_))
          rintro e w11 ⟨⟨sv, rfl, hv⟩, hb⟩
          replace hin := hin.call hb
          replace hs := hs.call hb
          replace bS2 := bS2.call hb
          clear hb c10 x0 x1 x2 xl hit
          obtain ⟨va, vk, rfl⟩ := hv.shape
          go_upto_region 27 with fail
          obtain ⟨S7, hS7⟩ : ∃ z, z = w11.heap.size := ⟨_, rfl⟩
          have bS7 := Bx.new_at w11 #[.int .i64 r, .int .i64 c, .slice va r vk] 63 hS7
          replace hin := hin.alloc (.cells #[.int .i64 r, .int .i64 c, .slice va r vk] 63)
          replace hs := hs.call ((Below.refl _ _).alloc (Nat.le_refl _) (.cells #[.int .i64 r, .int .i64 c, .slice va r vk] 63))
          replace bS2 := bS2.alloc (.cells #[.int .i64 r, .int .i64 c, .slice va r vk] 63)
          replace hv := hv.call ((Below.refl _ _).alloc (Nat.le_refl _) (.cells #[.int .i64 r, .int .i64 c, .slice va r vk] 63))
          rw [← hS7]
          clear hS7
          generalize w11.alloc (.cells #[.int .i64 r, .int .i64 c, .slice va r vk] 63) = W11 at *
          have x0 := bS2.c0
          have x1 := bS2.c1
          have x2 := bS2.c2
          have xl := bS2.lt
          go_wp2_with fail
          ((with_reducible refine (c11 _ hs).mono ?_))
          rintro e w12 ⟨rfl, hb⟩
          replace hin := hin.call hb
          replace hs := hs.call hb
          replace bS2 := bS2.call hb
          replace hv := hv.call hb
          replace bS7 := bS7.call hb
          clear hb c11 x0 x1 x2 xl
          have x0 := bS2.c0
          have x1 := bS2.c1
          have x2 := bS2.c2
          have xl := bS2.lt
          have y0 := bS7.c0
          have y1 := bS7.c1
          have y2 := bS7.c2
          have yl := bS7.lt
          go_wp2_with fail
          ((with_reducible refine (c12 _ _ hv hs).mono ?_))
          rintro e w13 ⟨rfl, hb⟩
          replace hin := hin.call hb
          replace hs := hs.call hb
          replace bS2 := bS2.call hb
          replace hv := hv.call hb
          replace bS7 := bS7.call hb
          clear hb c12 x0 x1 x2 xl y0 y1 y2 yl
          go_wp2_with fail
          ((with_reducible refine (cz _).mono ?_))
          rintro e w14 ⟨rfl, hb⟩
          replace hin := hin.call hb
          replace hs := hs.call hb
          replace bS2 := bS2.call hb
          replace hv := hv.call hb
          replace bS7 := bS7.call hb
          clear hb cz
          go_wp2_with fail
          go_ret
          exact ⟨rfl, hin.bel⟩
theorem parts_all (w : World) (R0 C0 : Nat) (hR0 : R0 < 256) (hC0 : C0 < 256) (a b d : Option Addr) (ca cb cd : Nat) (qa : List (Int × Int)) (xs ys : List Int) (i k : Int) (hqa : QAt w a qa) (hoa : QOk qa) (hla : qa.length ≤ maxLen) (hxs : IntsAt w b xs) (hys : IntsAt w d ys) :
    Calls Tryz.prog 6 #[.agg #[.int .u8 R0, .int .u8 C0, .slice a qa.length ca], .slice b xs.length cb, .slice d ys.length cd, .int .i64 i, .int .i64 k] w fun e w' => e = .returned (.bool true) ∧ Below w.heap.size w w' := by
  by_cases hs : qa.length ≤ 40 ∧ xs.length ≤ 8 ∧ ys.length ≤ 8
  · exact parts_small w R0 C0 hR0 hC0 a b d ca cb cd qa xs ys i k hqa hoa hs.1 hxs hys hs.2.1 hs.2.2
  · exact parts_large w R0 C0 a b d ca cb cd qa.length xs.length ys.length i k (by simp only [maxLen] at hla; omega) hs
end Gus
end
section
/- What all cards of this seat share: a world that holds the listed tables; the last step of a row whose call only makes memory. -/
namespace Gus
open Go Go.RowKit Go.Proofs Go.ChangeShapes Go.WideShapes Go.ChangeAt
theorem ownK : ownKnob Tryz.prog.godebug = none := by kernel_rfl
def tabP : Obj → Obj
  | .cells _ t frozen => .cells #[.int .u64 1, .int .u64 10, .int .u64 100, .int .u64 1000, .int .u64 10000, .int .u64 100000, .int .u64 1000000, .int .u64 10000000, .int .u64 100000000, .int .u64 1000000000, .int .u64 10000000000, .int .u64 100000000000, .int .u64 1000000000000, .int .u64 10000000000000, .int .u64 100000000000000, .int .u64 1000000000000000, .int .u64 10000000000000000, .int .u64 100000000000000000, .int .u64 1000000000000000000, .int .u64 10000000000000000000] t frozen
  | o => o
def tabA : Obj → Obj
  | .cells _ t frozen => .cells #[.int .u8 0, .int .u8 1, .int .u8 28, .int .u8 2, .int .u8 29, .int .u8 14, .int .u8 24, .int .u8 3, .int .u8 30, .int .u8 22, .int .u8 20, .int .u8 15, .int .u8 25, .int .u8 17, .int .u8 4, .int .u8 8, .int .u8 31, .int .u8 27, .int .u8 13, .int .u8 23, .int .u8 21, .int .u8 19, .int .u8 16, .int .u8 7, .int .u8 26, .int .u8 12, .int .u8 18, .int .u8 6, .int .u8 11, .int .u8 5, .int .u8 10, .int .u8 9] t frozen
  | o => o
def tabB : Obj → Obj
  | .cells _ t frozen => .cells #[.int .u8 0, .int .u8 1, .int .u8 56, .int .u8 2, .int .u8 57, .int .u8 49, .int .u8 28, .int .u8 3, .int .u8 61, .int .u8 58, .int .u8 42, .int .u8 50, .int .u8 38, .int .u8 29, .int .u8 17, .int .u8 4, .int .u8 62, .int .u8 47, .int .u8 59, .int .u8 36, .int .u8 45, .int .u8 43, .int .u8 51, .int .u8 22, .int .u8 53, .int .u8 39, .int .u8 33, .int .u8 30, .int .u8 24, .int .u8 18, .int .u8 12, .int .u8 5, .int .u8 63, .int .u8 55, .int .u8 48, .int .u8 27, .int .u8 60, .int .u8 41, .int .u8 37, .int .u8 16, .int .u8 46, .int .u8 35, .int .u8 44, .int .u8 21, .int .u8 52, .int .u8 32, .int .u8 23, .int .u8 11, .int .u8 54, .int .u8 26, .int .u8 40, .int .u8 15, .int .u8 34, .int .u8 20, .int .u8 31, .int .u8 10, .int .u8 25, .int .u8 14, .int .u8 19, .int .u8 9, .int .u8 13, .int .u8 8, .int .u8 7, .int .u8 6] t frozen
  | o => o
noncomputable def laidW (os : Os) : World :=
  { World.holding Tryz.prog os ⟨#[], #[], []⟩ with heap := (((World.holding Tryz.prog os ⟨#[], #[], []⟩).heap.modify 0 tabP).modify 3 tabA).modify 4 tabB }
section
variable {H : Type} {enc : TypeId × Value → H} {P : Program}
/-- a call behind which nothing that was there has turned: its row's last condition -/
theorem row_end {f : Func} {s : ChangeSpec} {apart fresh handsOn again : Bool} {W W' : World} {args : Array Value} {v : Value} {ds gs : List (DataW H)} {before pa pv : List MemPlace}
    (hb : Below W.heap.size W W') (hW : DataW.Whole enc P f.params.toList s.vars apart W args.toList ds gs before) (hps : before = pa ++ pv)
    (hargs : ∀ sp : Nat → Bool, (∀ p ∈ before, sp p.block = true) → DataW.TrodAll enc P W' 0 sp true f.params.toList args.toList (s.fn H (ds ++ gs)).args pa)
    (hvars : ∀ sp : Nat → Bool, (∀ p ∈ before, sp p.block = true) → DataW.TrodVars enc P W' sp s.vars (s.fn H (ds ++ gs)).vars pv)
    (hres : ∀ (b : Nat) (sp : Nat → Bool) (hd : Bool), DataW.TrodAll enc P W' b sp hd f.resultTypes.toList (v.resultList f.resultTypes.size) (s.fn H (ds ++ gs)).results [])
    (hok : ∀ (j : Nat) (t : TypeId) (r : Value), f.resultTypes[j]? = some t → (v.resultList f.resultTypes.size)[j]? = some r → Value.okWide P W' .any 0 t r) :
    s.post enc P f apart fresh handsOn again W args v W' := by
  have hin : ∀ p ∈ before, decide (p.block < W.heap.size) = true := fun p hp => decide_eq_true (hW.lt p hp)
  have hkept : W.keptBut W' (fun p => p ∈ before ∧ p ∈ pa ++ pv) := World.keptBut_mono (fun p hp => ⟨hp, hps ▸ hp⟩) (hb.frame (· ∈ before))
  refine ⟨ds, gs, before, [], pa, pv, hW, hres _ _ _, hargs _ hin, hvars _ hin, World.keptBut_mono (fun p hp => ⟨hp.1, ?_⟩) hkept, fun _ => ?_⟩
  · exact .inr (List.mem_append.1 hp.2)
  · have hlt := hW.lt
    obtain ⟨_, _, _, _, _, hz, hn⟩ := hW
    refine ⟨hok, _, _, ([] ++ pa) ++ pv, ⟨[] ++ pa, pv, trodAll_append (hargs _ (fun _ _ => rfl)) (hres _ _ _), hvars _ (fun _ _ => rfl), rfl, ?_, ?_⟩, ?_⟩
    · intro b off hp
      have hq : MemPlace.cell b off ∈ before := by rw [hps]; simpa using hp
      exact (hb.frozen (hlt _ hq)).trans (hz b off hq)
    · intro ha
      have h2 := hn ha
      rw [hps] at h2
      simpa using h2
    · intro p hp _
      rw [hps]
      simpa using hp
end
end Gus
end
section
/- Arguments of the laws as they are read: fractions, slices of fractions, matrices; they read as before where nothing has turned. -/
namespace Gus
open Go Go.RowKit Go.Proofs Go.ChangeShapes Go.WideShapes Go.ChangeAt Go.Deep
section
variable {H : Type} {enc : TypeId × Value → H} {W : World} {base : Nat} {sp : Nat → Bool} {held : Bool}
theorem laidOut : laidOutB Tryz.prog = true := by kernel_rfl
theorem args_stay {W' : World} {sp' : Nat → Bool} (hb : Below W.heap.size W W') : ∀ {ts : List TypeId} {vs : List Value} {ds : List (DataW H)} {p : List MemPlace}, (∀ t ∈ ts, Tryz.prog.readableRec t = true ∧ t < Tryz.prog.types.size) → DataW.TrodAll enc Tryz.prog W 0 (fun _ => true) true ts vs ds p → (∀ x ∈ p, x.block < W.heap.size) → (∀ x ∈ p, sp' x.block = true) → DataW.TrodAll enc Tryz.prog W' 0 sp' true ts vs ds p
  | [], _, _, _, _, h, _, _ => by
    obtain ⟨rfl, rfl, rfl⟩ := trodAll_nil h
    exact trodAll_mk0
  | t :: ts, _, _, _, hts, h, hlt, hsp => by
    obtain ⟨v, vs, d, ds, p, q, rfl, rfl, rfl, h0, h1⟩ := trodAll_cons h
    exact trodAll_cons_mk (WideElems.Trod_stays laidOut (hts t (.head _)).1 (hts t (.head _)).2 h0 (fun x hx => hb.same (hlt x (List.mem_append.2 (.inl hx)))) (fun x hx => hsp x (List.mem_append.2 (.inl hx))))
      (args_stay hb (fun t ht => hts t (List.mem_cons_of_mem _ ht)) h1 (fun x hx => hlt x (List.mem_append.2 (.inr hx))) (fun x hx => hsp x (List.mem_append.2 (.inr hx))))
theorem cell_in {w : World} {a : Addr} {v : Value} (h : w.cell? a = some v) : a.block < w.heap.size := by
  rcases Nat.lt_or_ge a.block w.heap.size with h1 | h1
  · exact h1
  · have : w.heap[a.block]? = none := by simp [h1]
    simp [World.cell?, this] at h
set_option maxRecDepth 100000 in
theorem open_q {b0 : Nat} {v : Value} {d : DataW H} {ps : List MemPlace} (hval : Value.okWide Tryz.prog W .any b0 35 v) (hd : DataW.Trod enc Tryz.prog W base sp held 35 v d ps) :
    ∃ n e : Int, v = .agg #[.int .i64 n, .int .u32 e] ∧ -9223372036854775808 ≤ n ∧ n < 9223372036854775808 ∧ 0 ≤ e ∧ e < 4294967296 := by
  obtain ⟨cs, rfl, hs⟩ := okWide_struct Tryz.underlying35 hval
  obtain ⟨fuel, hf⟩ := hd
  rw [show Tryz.prog.cellsOf 35 = 2 by kernel_rfl] at hs
  obtain ⟨x, y, rfl⟩ : ∃ x y, cs = #[x, y] := by
    rcases cs with ⟨l⟩
    match l, hs with
    | [x, y], _ => exact ⟨x, y, rfl⟩
  obtain ⟨y0, y1, m, _, _, h0, h1⟩ := trod_struct2 Tryz.underlying35 hf
  obtain ⟨n, g0, _, w0⟩ := DataW.trod_int Tryz.underlying2 h0
  obtain ⟨e, g1, _, w1⟩ := DataW.trod_int Tryz.underlying33 h1
  simp [Value.cells, show Tryz.prog.cellsOf 2 = 1 by kernel_rfl, show Tryz.prog.cellsOf 33 = 1 by kernel_rfl] at g0 g1
  subst g0 g1
  have b0 := bounds_i64 w0
  have b1 := bounds_u32 w1
  exact ⟨n, e, rfl, b0.1, by omega, b1.1, by omega⟩
set_option maxRecDepth 100000 in
theorem open_qs {fuel : Nat} {cs : List Value} {x : DataW H × List MemPlace} (h : DataW.trod enc Tryz.prog W base sp held fuel 72 cs = some x) :
    ∃ a qs cap, cs = [.slice a (List.length qs) cap] ∧ QAt W a qs ∧ QOk qs ∧ qs.length ≤ maxLen := by
  rcases open_slice_pairs (P := Tryz.prog) Tryz.underlying72 Tryz.underlying35 (by kernel_rfl) rfl rfl (by kernel_rfl) (by kernel_rfl) h with ⟨rfl, _⟩ | ⟨a, len, cap, m, n, V0, V1, D0, D1, P0, P1, rfl, _, hlc, hcm, hm, _, hx⟩
  · exact ⟨none, [], 0, rfl, fun i hi => absurd hi (Nat.not_lt_zero _), fun p hp => by (cases hp), Nat.zero_le _⟩
  · have hlm : len ≤ m := by rw [hm]; split <;> omega
    have hz : ∀ i, i < len → ∃ z0 z1 : Int, V0 i = .int .i64 z0 ∧ V1 i = .int .u32 z1 ∧ (Lit.int .i64 z0).wf = true ∧ (Lit.int .u32 z1).wf = true := fun i hi => by
      obtain ⟨_, _, h2, h3⟩ := hx i (by omega)
      obtain ⟨z0, g0, _, w0⟩ := DataW.trod_int Tryz.underlying2 h2
      obtain ⟨z1, g1, _, w1⟩ := DataW.trod_int Tryz.underlying33 h3
      simp only [List.cons.injEq, and_true] at g0 g1
      exact ⟨z0, z1, g0, g1, w0, w1⟩
    refine ⟨some a, (List.range len).map fun i => (RowKit.intOf (V0 i), RowKit.intOf (V1 i)), cap, by rw [List.length_map, List.length_range], fun i hi => ?_, fun p hp => ?_, by rw [List.length_map, List.length_range]; omega⟩
    · rw [List.length_map, List.length_range] at hi
      obtain ⟨z0, z1, e0, e1, _, _⟩ := hz i hi
      obtain ⟨c0, c1, _, _⟩ := hx i (by omega)
      obtain ⟨b, off, spot⟩ := a
      obtain rfl : spot = none := by
        have hs := World.cell?_spot (hx 0 (by omega)).1
        simpa [Addr.add] using hs
      rw [add_plain] at c0 c1
      refine ⟨b, off, rfl, cell_in c0, ?_, ?_⟩
      · rw [Nat.mul_comm, c0, e0]; simp [hi, e0, RowKit.intOf]
      · rw [Nat.mul_comm, Nat.add_assoc, c1, e1]; simp [hi, e1, RowKit.intOf]
    · obtain ⟨i, hi, rfl⟩ := List.mem_map.1 hp
      obtain ⟨z0, z1, e0, e1, w0, w1⟩ := hz i (List.mem_range.1 hi)
      have b0 := bounds_i64 w0
      have b1 := bounds_u32 w1
      simp only [e0, e1, RowKit.intOf]
      exact ⟨b0.1, by omega, b1.1, by omega⟩
set_option maxRecDepth 100000 in
theorem open_vec {b0 : Nat} {v : Value} {d : DataW H} {ps : List MemPlace} (hval : Value.okWide Tryz.prog W .any b0 72 v) (hd : DataW.Trod enc Tryz.prog W base sp held 72 v d ps) :
    ∃ a qs cap, v = .slice a (List.length qs) cap ∧ QAt W a qs ∧ QOk qs ∧ qs.length ≤ maxLen := by
  obtain ⟨a, len, cap, rfl⟩ := okWide_slice Tryz.underlying72 hval
  obtain ⟨fuel, hf⟩ := hd
  obtain ⟨a', qs, cap', e, h1, h2, h3⟩ := open_qs hf
  simp [Value.cells] at e
  obtain ⟨rfl, rfl, rfl⟩ := e
  exact ⟨a, qs, cap, rfl, h1, h2, h3⟩
set_option maxRecDepth 100000 in
theorem open_m {b0 : Nat} {v : Value} {d : DataW H} {ps : List MemPlace} (hval : Value.okWide Tryz.prog W .any b0 74 v) (hd : DataW.Trod enc Tryz.prog W base sp held 74 v d ps) :
    ∃ (R C : Nat) (a : Option Addr) (qs : List (Int × Int)) (cap : Nat), v = .agg #[.int .u8 R, .int .u8 C, .slice a qs.length cap] ∧ R < 256 ∧ C < 256 ∧ QAt W a qs ∧ QOk qs ∧ qs.length ≤ maxLen := by
  obtain ⟨cs, rfl, hs⟩ := okWide_struct Tryz.underlying74 hval
  obtain ⟨fuel, hf⟩ := hd
  rw [show Tryz.prog.cellsOf 74 = 3 by kernel_rfl] at hs
  obtain ⟨x, y, z, rfl⟩ : ∃ x y z, cs = #[x, y, z] := by
    rcases cs with ⟨l⟩
    match l, hs with
    | [x, y, z], _ => exact ⟨x, y, z, rfl⟩
  obtain ⟨xs, m, _, _, _, hxl, hf⟩ := DataW.trod_struct Tryz.underlying74 hf
  match xs, hxl with
  | [y0, y1, y2], _ =>
    have h0 := hf 0 _ rfl
    have h1 := hf 1 _ rfl
    have h2 := hf 2 _ rfl
    obtain ⟨n, g0, _, w0⟩ := DataW.trod_int Tryz.underlying5 h0
    obtain ⟨e, g1, _, w1⟩ := DataW.trod_int Tryz.underlying5 h1
    obtain ⟨a, qs, cap, g2, k1, k2, k3⟩ := open_qs h2
    simp [Value.cells, show Tryz.prog.cellsOf 5 = 1 by kernel_rfl, show Tryz.prog.cellsOf 72 = 1 by kernel_rfl] at g0 g1 g2
    subst g0 g1 g2
    have b0 := bounds_u8 w0
    have b1 := bounds_u8 w1
    obtain ⟨n, rfl⟩ := Int.eq_ofNat_of_zero_le b0.1
    obtain ⟨e, rfl⟩ := Int.eq_ofNat_of_zero_le b1.1
    exact ⟨n, e, a, qs, cap, rfl, by omega, by omega, k1, k2, k3⟩
end
end Gus
end
section
/- Arguments that are slices of integers. -/
namespace Gus
open Go Go.RowKit Go.Proofs Go.ChangeShapes Go.WideShapes Go.ChangeAt Go.Deep
section
variable {H : Type} {enc : TypeId × Value → H} {W : World} {base : Nat} {sp : Nat → Bool} {held : Bool}
set_option maxRecDepth 100000 in
theorem open_is {b0 : Nat} {v : Value} {d : DataW H} {ps : List MemPlace} (hval : Value.okWide Tryz.prog W .any b0 40 v) (hd : DataW.Trod enc Tryz.prog W base sp held 40 v d ps) :
    ∃ a xs cap, v = .slice a (List.length xs) cap ∧ IntsAt W a xs ∧ (∀ n ∈ xs, -9223372036854775808 ≤ n ∧ n < 9223372036854775808) ∧ xs.length ≤ maxLen := by
  obtain ⟨a, len, cap, rfl⟩ := okWide_slice Tryz.underlying40 hval
  obtain ⟨fuel, hf⟩ := hd
  rcases open_ints Tryz.underlying40 Tryz.underlying3 (by kernel_rfl) hf with ⟨e, _⟩ | ⟨a', len', cap', zs, e, _, hlc, hcm, hzl, _, hc, hw⟩
  · simp [Value.cells] at e
    obtain ⟨rfl, rfl, rfl⟩ := e
    exact ⟨none, [], 0, rfl, fun i hi => absurd hi (Nat.not_lt_zero _), fun n hn => by (cases hn), Nat.zero_le _⟩
  · simp [Value.cells] at e
    obtain ⟨rfl, rfl, rfl⟩ := e
    have hle : len ≤ zs.length := by rw [hzl]; split <;> omega
    have htl : (zs.take len).length = len := by rw [List.length_take]; omega
    refine ⟨some a', zs.take len, cap, by rw [htl], fun i hi => ?_, fun n hn => ?_, by rw [htl]; omega⟩
    · rw [htl] at hi
      obtain ⟨b, off, spot⟩ := a'
      obtain rfl : spot = none := by
        have hs := World.cell?_spot (hc 0 (by omega))
        simpa [Addr.add] using hs
      have h1 := hc i (by omega)
      rw [add_plain] at h1
      refine ⟨b, off, rfl, cell_in h1, ?_⟩
      rw [h1, List.getD_eq_getElem?_getD, List.getD_eq_getElem?_getD, List.getElem?_take, if_pos hi]
    · have := bounds_i64 (hw n (List.mem_of_mem_take hn))
      omega
end
end Gus
end
section
/- Proved: whatever the matrix, the indices and the position, gussetlaw16.SparsesParts returns true, and the arguments read as before. Conditions: the three listed tables hold what the program's text lays (the card ties them). -/
namespace Go.Proofs.YtjiobckoldnonaaGreatDoor
open Go Go.RowKit Go.ChangeShapes Go.WideShapes Go.ChangeAt Gus
namespace Par
theorem params_ok : ∀ t ∈ Tryz.f6.params.toList, Tryz.prog.readableRec t = true ∧ t < Tryz.prog.types.size := by
  rw [Tryz.params6]
  intro t ht
  simp only [List.mem_cons, List.not_mem_nil, or_false] at ht
  rcases ht with rfl | rfl | rfl | rfl | rfl <;> exact ⟨by kernel_rfl, of_decide_eq_true (by kernel_rfl)⟩
set_option maxRecDepth 100000 in
theorem contract (H : Type) (enc : TypeId × Value → H) (W : World) (base : Nat) (args : Array Value) (ds gs : List (DataW H)) (before : List MemPlace)
    (hval : ∀ (j : Nat) t v, Tryz.f6.params[j]? = some t → args[j]? = some v → Value.okWide Tryz.prog W .any base t v)
    (hW : DataW.Whole enc Tryz.prog Tryz.f6.params.toList Rows.sparsesPartsSpec.vars false W args.toList ds gs before) :
    Calls Tryz.prog 6 args W fun e W' => ∃ v, e = .returned v ∧ Rows.sparsesPartsSpec.post enc Tryz.prog Tryz.f6 false true false false W args v W' := by
  have hW' := hW
  have hlt := hW.lt
  obtain ⟨p, q, hA0, hV, rfl, hfz, hnd⟩ := hW
  have hA1 : DataW.TrodAll enc Tryz.prog W 0 (fun _ => true) true Tryz.f6.params.toList args.toList ds p := hA0
  have hA := hA1
  rw [Tryz.params6] at hA hval
  obtain ⟨v0, vs0, d0, ds0, p0, q0, hargs, rfl, rfl, h0, r0⟩ := trodAll_cons hA
  obtain ⟨v1, vs1, d1, ds1, p1, q1, rfl, rfl, rfl, h1, r1⟩ := trodAll_cons r0
  obtain ⟨v2, vs2, d2, ds2, p2, q2, rfl, rfl, rfl, h2, r2⟩ := trodAll_cons r1
  obtain ⟨v3, vs3, d3, ds3, p3, q3, rfl, rfl, rfl, h3, r3⟩ := trodAll_cons r2
  obtain ⟨v4, vs4, d4, ds4, p4, q4, rfl, rfl, rfl, h4, r4⟩ := trodAll_cons r3
  obtain ⟨rfl, rfl, rfl⟩ := trodAll_nil r4
  obtain rfl : args = #[v0, v1, v2, v3, v4] := by cases args; simp_all
  obtain ⟨rfl, rfl⟩ := trodVars_none hV
  obtain ⟨R0, C0, a0, q0, k0, rfl, hR0, hC0, hq0, ho0, hl0⟩ := open_m (hval 0 74 v0 (by rfl) (by rfl)) h0
  obtain ⟨a1, x1, k1, rfl, hx1, hw1, hl1⟩ := open_is (hval 1 40 v1 (by rfl) (by rfl)) h1
  obtain ⟨a2, x2, k2, rfl, hx2, hw2, hl2⟩ := open_is (hval 2 40 v2 (by rfl) (by rfl)) h2
  obtain ⟨z3, rfl, _, _, w3⟩ := open_int Tryz.underlying3 (hval 3 3 v3 (by rfl) (by rfl)) h3
  obtain ⟨z4, rfl, _, _, w4⟩ := open_int Tryz.underlying3 (hval 4 3 v4 (by rfl) (by rfl)) h4
  refine (parts_all W R0 C0 hR0 hC0 a0 a1 a2 k0 k1 k2 q0 x1 x2 z3 z4 hq0 ho0 hl0 hx1 hx2).mono fun e W' ⟨he, hb⟩ => ?_
  subst he
  exact ⟨_, rfl, row_end (pv := []) hb hW' rfl (fun sp hsp => args_stay hb params_ok hA1 (fun x hx => hlt x (List.mem_append.2 (.inl hx))) (fun x hx => hsp x (List.mem_append.2 (.inl hx)))) (fun _ _ => rfl)
    (fun _ _ _ => trodAll_cons_mk (shut_bool Tryz.underlying4 _) trodAll_mk0) (ok_one (by kernel_rfl) rfl (okWide_bool_mk Tryz.underlying4 _))⟩
abbrev input : Array Value := #[.agg #[.int .u8 0, .int .u8 0, .slice none 0 0], .slice none 0 0, .slice none 0 0, .int .i64 0, .int .i64 0]
theorem laid_met (os : Os) : laidMet Tryz.prog Rows.sparsesPartsRow.laid ((laidW os).forCall (fun _ _ => 0) ⟨#[], input, []⟩).memory :=
  laidMet_of_run' 8 (by kernel_rfl) (by kernel_rfl)
theorem reads (os : Os) {H : Type} (enc : TypeId × Value → H) : ∃ places, DataW.whole enc Tryz.prog ((laidW os).forCall (fun _ _ => 0) ⟨#[], input, []⟩).memory Tryz.f6.params.toList Rows.sparsesPartsSpec.vars false input.toList 8 = some ([.agg [.lit (.int .u8 0), .lit (.int .u8 0), .nil], .nil, .nil, .lit (.int .i64 0), .lit (.int .i64 0)], [], places) :=
  ⟨[], by kernel_rfl⟩
set_option maxRecDepth 100000 in
theorem lifted (os : Os) (started : os.Started) (H : Type) (enc : TypeId × Value → H) (F : Stop.Interp) :
    ReturnsInHanded {} Tryz.checked os 6 .any ((OpenSpec.ofChange Rows.sparsesPartsSpec).preRow enc Tryz.prog Tryz.f6 Rows.sparsesPartsRow.domain false Rows.sparsesPartsRow.laid) (((OpenSpec.ofChange Rows.sparsesPartsSpec).at F).post enc Tryz.prog Tryz.f6 false true false false) := by
  obtain ⟨places, hx⟩ := reads os enc
  refine returnsInHanded_of_row (C := Tryz.checked) (s := OpenSpec.ofChange Rows.sparsesPartsSpec) ownK started (by kernel_rfl) Tryz.func6
    (witness_row_at (enc := enc) (C := Tryz.checked) false (laidW os) input rfl (by kernel_rfl) (by kernel_rfl) (by kernel_rfl)
      (OpenSpec.preRow_of_cond 8 hx (by kernel_rfl) (fun k hk => by cases hk) (by kernel_rfl) (laid_met os))) ?_
  intro W base args ds gs before hval hW _ _ _ _ _ _
  exact contract H enc W base args ds gs before hval hW
theorem said : Rows.SparsesPartsSaid :=
  OpenClaim.holds_of_cond 6 Tryz.f6 rfl rfl rfl rfl rfl rfl rfl ⟨rfl, rfl, rfl, rfl, rfl⟩ rfl rfl rfl rfl rfl (by kernel_rfl) Tryz.func6 (by kernel_rfl)
    (of_decide_eq_true (by kernel_rfl)) (by unfold Func.isWrapper; first | (rw [if_pos (by decide +kernel)]; kernel_rfl) | (rw [if_neg (by decide +kernel)]; exact ⟨rfl, rfl⟩))
    (fun os started H enc _ F => by rw [OpenClaim.pre_eq_preRow]; exact lifted os started H enc F)
theorem plain (f : FuncId) (fn : Func) (hf : Tryz.pinned.checked.prog.funcNamed "gusset/gussetlaw16.SparsesParts" = some f) (hfn : Tryz.pinned.checked.prog.funcs[f]? = some fn) :
    false = Tryz.pinned.checked.prog.looks [] ∧ ∀ (j : Nat) t, fn.params[j]? = some t → Tryz.pinned.checked.prog.wantsStandIn t = false := by
  obtain rfl : f = 6 := Option.some.inj ((show Tryz.prog.funcNamed "gusset/gussetlaw16.SparsesParts" = some 6 by kernel_rfl).symm.trans hf) |>.symm
  obtain rfl : fn = Tryz.f6 := (Option.some.inj (Tryz.func6.symm.trans hfn)).symm
  refine ⟨by kernel_rfl, fun j t ht => ?_⟩
  have hm := Array.mem_of_getElem? ht
  rw [Tryz.params6] at hm
  simp only [List.mem_toArray, List.mem_cons, List.not_mem_nil, or_false] at hm
  rcases hm with rfl | rfl | rfl | rfl | rfl
  · exact (show Tryz.prog.wantsStandIn 74 = false by kernel_rfl)
  · exact (show Tryz.prog.wantsStandIn 40 = false by kernel_rfl)
  · exact (show Tryz.prog.wantsStandIn 40 = false by kernel_rfl)
  · exact (show Tryz.prog.wantsStandIn 3 = false by kernel_rfl)
  · exact (show Tryz.prog.wantsStandIn 3 = false by kernel_rfl)
end Par
/-- the card -/
theorem parts_card : Rows.SparsesPartsCardSaid :=
  Claim7.holds_tied_plain_at .later [] _ _ _ _ Par.said (fun _ h => by cases h) (by kernel_rfl) (fun _ h => by cases h) sparsesParts_row_tie rfl ⟨rfl, rfl⟩ (by kernel_rfl) rfl Par.plain (by kernel_rfl)
end Go.Proofs.YtjiobckoldnonaaGreatDoor
end
