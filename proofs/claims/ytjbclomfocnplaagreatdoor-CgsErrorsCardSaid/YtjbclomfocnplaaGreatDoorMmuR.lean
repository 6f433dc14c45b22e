/- Proved here: parts of the proof: Mmu Vdt Sum Dot Mro Mpp Mfo Msy Pdn Sbl Ssc Smu Sad Sap Lvc Dlw. Conditions: those that each theorem states. -/
import Derived.Test.YtjbclomfocnplaaGreatDoorSameR
import Derived.Handy
import Derived.Test.YtjbclomfocnplaaGreatDoorShelfUR
section
/- mats.Mul. -/
namespace Gus
open Go Go.RowKit Go.Proofs
def sumTo (F : Nat → Rat) : Nat → Rat
  | 0 => 0
  | n + 1 => sumTo F n + F n
theorem sumTo_szk {F : Nat → Rat} {j : Nat} (h : ∀ t, SzK j (F t)) : ∀ n, SzK (1 + n * (j + 1)) (sumTo F n)
  | 0 => by rw [Nat.zero_mul]; exact SzK.zero
  | n + 1 => by
    have := (sumTo_szk h n).add (h n)
    rw [show 1 + (n + 1) * (j + 1) = 1 + n * (j + 1) + j + 1 by rw [Nat.add_mul]; omega]
    exact this
end Gus
end
section
/- vecs.alike, mats.short, vecs.each, fracs.Sum, vecs.Dot. -/
namespace Gus
open Go Go.RowKit Go.Proofs
set_option maxRecDepth 100000 in
set_option maxHeartbeats 2000000 in
theorem alike_two (w : World) (b n n' k k' : Nat) (T : TypeId) (a a' : Option Addr) (hB : Bx w b T [.slice a n k, .slice a' n' k']) (h1 : n ≤ 2048) (h2 : n' ≤ 2048) :
    Calls Tryz.prog 161 #[.slice (some ⟨b, 0, none⟩) 2 2] w fun e w' => e = .returned (.int .i64 (if n = n' then 0 else 1)) ∧ Below w.heap.size w w' := by
  have x0 := hB.c0
  have x1 := hB.c1
  have xl := hB.lt
  have k1 : ¬ (2048 : Int) < n := by omega
  have k2 : ¬ (2048 : Int) < n' := by omega
  have hbel := Below.refl w.heap.size w
  clear hB h1 h2
  by_cases he : n = n'
  · subst he
    rw [if_pos rfl]
    go_enter Tryz.func161, Tryz.ntmps161
    go_wp2_with fail
    go_rounds 3
    go_wp2_with fail
    go_rounds 3
    exact bodyPost_ret (v := .int .i64 0) (by simp [results, Tryz.results161, go_sem, *]) rfl ⟨rfl, hbel⟩
  · rw [if_neg he]
    have h3 : ((n' : Int) != n) = true := by
      have : ¬ (n' : Int) = n := by omega
      simpa using this
    clear he
    go_enter Tryz.func161, Tryz.ntmps161
    go_wp2_with fail
    go_rounds 3
    go_wp2_with fail
    go_rounds 3
    exact bodyPost_ret (v := .int .i64 1) (by simp [results, Tryz.results161, go_sem, *]) rfl ⟨rfl, hbel⟩
set_option maxRecDepth 100000 in
set_option maxHeartbeats 4000000 in
theorem veach_any (op : Rat → Rat → Rat) (w : World) (x y : Value) (qs ps : List Rat) (n gf : Nat) (cbf : Array Value) (hx : VecAt w x qs) (hy : VecAt w y ps) (hl : qs.length = n) (hl' : ps.length = n) (hn : n ≤ 2048) (eg : ∀ args w, (callFunc gf args).run Tryz.prog w = .ok (.enter gf args) w)
    (hop : ∀ i W2, i < n → In w.heap.size w W2 → Calls Tryz.prog gf (#[fracV (qs.getD i 0), fracV (ps.getD i 0)] ++ cbf) W2 fun e w' => e = .returned (fracV (op (qs.getD i 0) (ps.getD i 0))) ∧ Below W2.heap.size W2 w') :
    Calls Tryz.prog 77 #[x, y, .func (.func gf) #[] cbf] w fun e w' => (∃ d, e = .returned (.tuple #[d, .int .i64 0]) ∧ VecAt w' d ((List.range n).map fun i => op (qs.getD i 0) (ps.getD i 0))) ∧ Below w.heap.size w w' := by
  have HX0 := Lib.hid hx
  have HY0 := Lib.hid hy
  obtain ⟨a, k, rfl⟩ := hx.shape
  obtain ⟨a', k', rfl⟩ := hy.shape
  rw [hl] at HX0 ⊢
  rw [hl'] at HY0 ⊢
  have c1 := fun W b T h => alike_two W b n n k k' T a a' h hn hn
  rw [if_pos rfl] at c1
  have hmk := mk_vec n (by omega)
  obtain ⟨fc, hfc⟩ : ∃ fc, fc = fcl (List.replicate n 0) := ⟨_, rfl⟩
  rw [← hfc] at hmk
  have HF := Lib.hid hfc
  have HL := Lib.hid hl
  have HL' := Lib.hid hl'
  have HOP := Lib.hid hop
  obtain ⟨X, hX⟩ : ∃ X, X = w.heap.size := ⟨_, rfl⟩
  have HX := Lib.hid hX
  clear hx hy hl hl' hop hfc
  go_enter Tryz.func77, Tryz.ntmps77
  go_wp2_with fail
  ((with_reducible refine (c1 _ _ 33 ?_).mono ?_))
  · exact Bx.new_at _ _ _ rfl
  rintro e w2 ⟨rfl, hb⟩
  have hin := ((In.self w).alloc (.cells #[.slice a n k, .slice a' n k'] 33)).call hb
  rw [← hX] at hin
  clear hb c1 hX
  go_upto_region 5 with fail
  obtain ⟨g, hg⟩ : ∃ g, g = w2.heap.size := ⟨_, rfl⟩
  have hXg : X ≤ g := by have := hin.siz; omega
  have bv : VBx (w2.alloc (.cells fc.toArray 52)) g (pv (fun i => op (qs.getD i 0) (ps.getD i 0)) n 0) := by
    have := Bx.new_at w2 fc.toArray 52 hg
    show Bx _ g 52 (fcl _)
    rw [pv_zero, ← HF.out]; exact this
  replace hin := hin.alloc (.cells fc.toArray 52)
  rw [← hg]
  clear hg hmk
  generalize w2.alloc (.cells fc.toArray 52) = W1 at *
  go_wp2_with fail
  go_loopw [23] (fun v23 wr => ∃ i : Nat, i ≤ n ∧ v23 = .int .i64 i ∧ In X w wr ∧ VBx wr g (pv (fun i => op (qs.getD i 0) (ps.getD i 0)) n i)) (fun v23 _ => n - (RowKit.intOf v23).toNat)
  case atStart => exact ⟨0, Nat.zero_le _, rfl, hin, bv⟩
  case round =>
    clear hin bv
    obtain ⟨i, hi, rfl, hin, bv⟩ := hrel
    by_cases hin2 : i < n
    · have hiI : (i : Int) < n := by omega
      have hi0 : (0 : Int) ≤ i := by omega
      have hiw : IntKind.i64.wrap ((i : Int) + 1) = ((i + 1 : Nat) : Int) := IntWalk.i64_in _ (by omega)
      obtain ⟨b1, o1, _, B1, B2, B3, B4, B5, e1, hb1, _, hf1, y0, y1, y2, y3, y4⟩ := HX0.out.at (i := i) (by rw [HL.out]; exact hin2)
      obtain ⟨b2, o2, _, D1, D2, D3, D4, D5, e2, hb2, _, hf2, z0, z1, z2, z3, z4⟩ := HY0.out.at (i := i) (by rw [HL'.out]; exact hin2)
      simp only [Value.slice.injEq] at e1 e2
      obtain ⟨rfl, _, _⟩ := e1
      obtain ⟨rfl, _, _⟩ := e2
      rw [← HX.out] at hb1 hb2
      rw [← hin.cell b1 _ hb1] at y0 y1 y2 y3 y4
      rw [← hin.cell b2 _ hb2] at z0 z1 z2 z3 z4
      have hbw1 : b1 < wr.heap.size := by have := hin.siz; omega
      have hbw2 : b2 < wr.heap.size := by have := hin.siz; omega
      have h3 := fun W2 (h : In wr.heap.size wr W2) => HOP.out i W2 hin2 (by rw [← HX.out]; exact hin.call h.bel)
      obtain ⟨q, hq⟩ : ∃ q, q = op (qs.getD i 0) (ps.getD i 0) := ⟨_, rfl⟩
      rw [← hq, hf1, hf2] at h3
      have hlt : i < (pv (fun i => op (qs.getD i 0) (ps.getD i 0)) n i).length := by rw [pv_length]; exact hin2
      have hgl := bv.lt
      have HQ := Lib.hid hq
      clear hq hf1 hf2
      go_upto_region 8 with fail
      have h := In.self wr
      have hc := h.cell
      refine wp_region_flow 13 (by kernel_rfl) (by kernel_rfl) (fun _ _ d _ _ h => by cases d <;> exact h) ?_; simp only [List.take_succ_cons, List.take_zero, List.drop_succ_cons, List.drop_zero]; simp only [putAll, Act.put, List.setIfInBounds_toArray, List.set]; (try simp only [Nat.reduceAdd]); (try simp only [Nat.zero_add]); (repeat (first | ((with_reducible refine flow_float (v := ?_) ?_ ?_ ?_); rotate_left 1; (focus (with_reducible rfl)); (focus (intro u w1 hw hd w2; (try simp only [depH] at hd); (try simp only [ext] at hd); (try simp only [extU] at hd); (try simp only [Nat.reduceAdd] at hd); (try simp only [Nat.reduceEqDiff] at hd); (try simp only [reduceIte] at hd); (try simp only [and_true] at hd); (try simp only [true_and] at hd); go_simp; exact rfl))) | ((first | ((with_reducible refine flow_pure0 (v := ?_) ?_ ?_ ?_ ?_); rotate_left 1; (focus (with_reducible rfl)); (focus rfl)) | ((with_reducible refine flow_pureg (v := ?_) (j := ?_) (b := ?_) ?_ ?_ ?_ ?_); rotate_left 3; (focus (with_reducible rfl)); (focus (intro u w1 hw hd; (try simp only [depH] at hd); (try simp only [ext] at hd); (try simp only [extU] at hd); (try simp only [Nat.reduceAdd] at hd); (try simp only [Nat.reduceEqDiff] at hd); (try simp only [reduceIte] at hd); (try simp only [and_true] at hd); (try simp only [true_and] at hd); simp [yielded, hd]; done)))); (focus (intro u w1 hw hd; (try simp only [depH] at hd); (try simp only [ext] at hd); (try simp only [extU] at hd); (try simp only [Nat.reduceAdd] at hd); (try simp only [Nat.reduceEqDiff] at hd); (try simp only [reduceIte] at hd); (try simp only [and_true] at hd); (try simp only [true_and] at hd); have hc' := hw.cell; go_simp; exact rfl))) | ((with_reducible refine flow_skipg (j := ?_) (b := ?_) ?_ ?_ ?_); rotate_left 2; (focus (with_reducible rfl)); (focus (intro u w1 hw hd; (try simp only [depH] at hd); (try simp only [ext] at hd); (try simp only [extU] at hd); (try simp only [Nat.reduceAdd] at hd); (try simp only [Nat.reduceEqDiff] at hd); (try simp only [reduceIte] at hd); (try simp only [and_true] at hd); (try simp only [true_and] at hd); simp [yielded, hd]; done))) | ((with_reducible refine flow_alloc (t := ?_) (zs := ?_) ?_ ?_ ?_ ?_); rotate_left 2; (focus (with_reducible rfl)); (focus rfl); (focus (intro u w1; go_simp; exact rfl)))))
      (with_reducible refine flow_pure0 (v := fracV q) ?_ ?_ ?_ ?_)
      case refine_1 => with_reducible rfl
      case refine_2 => rfl
      case refine_3 =>
        intro u w1 hw hd
        (try simp only [depH] at hd); (try simp only [ext] at hd); (try simp only [extU] at hd); (try simp only [Nat.reduceAdd] at hd); (try simp only [Nat.reduceEqDiff] at hd); (try simp only [reduceIte] at hd); (try simp only [and_true] at hd); (try simp only [true_and] at hd)
        have hc' := hw.cell
        go_simp
        refine (h3 _ hw.ins).mono ?_
        rintro e w'' ⟨rfl, hb⟩
        exact ⟨rfl, hb⟩
      (repeat (first | ((with_reducible refine flow_float (v := ?_) ?_ ?_ ?_); rotate_left 1; (focus (with_reducible rfl)); (focus (intro u w1 hw hd w2; (try simp only [depH] at hd); (try simp only [ext] at hd); (try simp only [extU] at hd); (try simp only [Nat.reduceAdd] at hd); (try simp only [Nat.reduceEqDiff] at hd); (try simp only [reduceIte] at hd); (try simp only [and_true] at hd); (try simp only [true_and] at hd); go_simp; exact rfl))) | ((first | ((with_reducible refine flow_pure0 (v := ?_) ?_ ?_ ?_ ?_); rotate_left 1; (focus (with_reducible rfl)); (focus rfl)) | ((with_reducible refine flow_pureg (v := ?_) (j := ?_) (b := ?_) ?_ ?_ ?_ ?_); rotate_left 3; (focus (with_reducible rfl)); (focus (intro u w1 hw hd; (try simp only [depH] at hd); (try simp only [ext] at hd); (try simp only [extU] at hd); (try simp only [Nat.reduceAdd] at hd); (try simp only [Nat.reduceEqDiff] at hd); (try simp only [reduceIte] at hd); (try simp only [and_true] at hd); (try simp only [true_and] at hd); simp [yielded, hd]; done)))); (focus (intro u w1 hw hd; (try simp only [depH] at hd); (try simp only [ext] at hd); (try simp only [extU] at hd); (try simp only [Nat.reduceAdd] at hd); (try simp only [Nat.reduceEqDiff] at hd); (try simp only [reduceIte] at hd); (try simp only [and_true] at hd); (try simp only [true_and] at hd); have hc' := hw.cell; go_simp; exact rfl))) | ((with_reducible refine flow_skipg (j := ?_) (b := ?_) ?_ ?_ ?_); rotate_left 2; (focus (with_reducible rfl)); (focus (intro u w1 hw hd; (try simp only [depH] at hd); (try simp only [ext] at hd); (try simp only [extU] at hd); (try simp only [Nat.reduceAdd] at hd); (try simp only [Nat.reduceEqDiff] at hd); (try simp only [reduceIte] at hd); (try simp only [and_true] at hd); (try simp only [true_and] at hd); simp [yielded, hd]; done))) | ((with_reducible refine flow_alloc (t := ?_) (zs := ?_) ?_ ?_ ?_ ?_); rotate_left 2; (focus (with_reducible rfl)); (focus rfl); (focus (intro u w1; go_simp; exact rfl)))))
      (try clear hc hf h); intro u w' h ha hdi; replace h := h.ins; (try simp only [World.size_alloc] at h); (try dsimp only at ha); (repeat rw [World.size_alloc] at ha); (try simp only [allH] at ha); (try simp only [ext] at ha); (try simp only [extU] at ha); (try simp only [Nat.reduceAdd] at ha); (try simp only [Nat.reduceEqDiff] at ha); (try simp only [reduceIte] at ha); (try simp only [and_true] at ha); (try simp only [true_and] at ha); have hc := h.cell; have hf := h.frozen
      (try obtain ha := ha); (try dsimp only);  simp only [ha]; clear ha hdi 
      have bv3 := bv.call h.bel
      have hin3 := hin.call h.bel
      obtain ⟨_, _, _, _, _, _, c0, c1, c2, c3, c4, f0, f1, f2, f3, f4⟩ := VBx.cells bv3 hlt
      have hgl3 := bv3.lt
      have hs := VBx.set bv3 i q hlt
      rw [show (pv (fun i => op (qs.getD i 0) (ps.getD i 0)) n i).set i q = pv (fun i => op (qs.getD i 0) (ps.getD i 0)) n (i + 1) by rw [HQ.out]; exact pv_set _ _ _] at hs
      have H1 := Lib.hid hs
      have H2 := Lib.hid (hin3.put5 (g := g) hXg i q)
      clear h hc hf hs hin3 bv3 hin bv h3 y0 y1 y2 y3 y4 z0 z1 z2 z3 z4 hbw1 hbw2 hb1 hb2 hgl
      go_wp2_with fail
      exact ⟨⟨i + 1, by omega, by go_num, H2.out, H1.out⟩, by simp [RowKit.intOf]; omega⟩
    · obtain rfl : i = n := by omega
      have hiI : ¬ (i : Int) < i := by omega
      rw [pv_full] at bv
      have hv : VecAt wr (.slice (some ⟨g, 0, none⟩) i i) ((List.range i).map fun t => op (qs.getD t 0) (ps.getD t 0)) := VBx.at bv i (by simp) i
      have H1 := Lib.hid hv
      have H2 := Lib.hid hin
      clear bv hin hv
      go_wp2_with fail
      exact bodyPost_ret (v := .tuple #[.slice (some ⟨g, 0, none⟩) i i, .int .i64 0]) (by simp [results, Tryz.results77, go_sem]) rfl ⟨⟨_, rfl, H1.out⟩, by rw [← HX.out]; exact H2.out.bel⟩
end Gus
end
section
/- fracs.Sum, vecs.Dot. -/
namespace Gus
open Go Go.RowKit Go.Proofs
set_option maxRecDepth 100000 in
set_option maxHeartbeats 2000000 in
theorem tadd_any {j l : Nat} (N : Nat) (w0 W : World) (T : Nat) (s x : Rat) (hT : Bx W T 298 (fcs s)) (hs : SzK j s) (hx : SzK l x) (hjl : j + l + 1 < 17592186044416) (hin : In N w0 W) (hN : N ≤ T) :
    Calls Tryz.prog 237 #[.pointer (some ⟨T, 0, none⟩), fracV x] W fun e w' => e = .returned (.tuple #[]) ∧ Bx w' T 298 (fcs (s + x)) ∧ In N w0 w' := by
  have h1 := fadd_any s x hs hx hjl
  obtain ⟨S1, S2, S3, S4, S5, hs1, hs2⟩ : ∃ A1 A2 A3 A4 A5, fracV s = .agg #[.int .u64 A1, .string A2, .bool A3, .int .u64 A4, .string A5] ∧ fcs s = [.int .u64 A1, .string A2, .bool A3, .int .u64 A4, .string A5] := ⟨_, _, _, _, _, rfl, rfl⟩
  obtain ⟨X1, X2, X3, X4, X5, hx1⟩ : ∃ A1 A2 A3 A4 A5, fracV x = .agg #[.int .u64 A1, .string A2, .bool A3, .int .u64 A4, .string A5] := ⟨_, _, _, _, _, rfl⟩
  rw [hs1, hx1] at h1
  rw [hs2] at hT
  rw [hx1]
  obtain ⟨z, hz⟩ : ∃ z, z = s + x := ⟨_, rfl⟩
  rw [← hz] at h1 ⊢
  obtain ⟨N1, N2, N3, N4, N5, hn1, hn2⟩ : ∃ A1 A2 A3 A4 A5, fracV z = .agg #[.int .u64 A1, .string A2, .bool A3, .int .u64 A4, .string A5] ∧ fcs z = [.int .u64 A1, .string A2, .bool A3, .int .u64 A4, .string A5] := ⟨_, _, _, _, _, rfl, rfl⟩
  rw [hn1] at h1
  rw [hn2]
  have hTl := hT.lt
  clear hz hs1 hs2 hx1 hn1 hn2
  go_enter Tryz.func237, Tryz.ntmps237
  go_upto_region 1 with fail
  obtain ⟨Z, hZ⟩ : ∃ Z, Z = W.heap.size := ⟨_, rfl⟩
  have bx := Bx.new_at W #[.int .u64 X1, .string X2, .bool X3, .int .u64 X4, .string X5] 52 hZ
  replace hT := hT.alloc (.cells #[.int .u64 X1, .string X2, .bool X3, .int .u64 X4, .string X5] 52)
  replace hin := hin.alloc (.cells #[.int .u64 X1, .string X2, .bool X3, .int .u64 X4, .string X5] 52)
  rw [← hZ]
  clear hZ hTl
  generalize W.alloc (.cells #[.int .u64 X1, .string X2, .bool X3, .int .u64 X4, .string X5] 52) = W1 at *
  have x0 := bx.c0
  have x1 := bx.c1
  have x2 := bx.c2
  have x3 := bx.c3
  have x4 := bx.c4
  have xl := bx.lt
  have s0 := hT.c0
  have s1 := hT.c1
  have s2 := hT.c2
  have s3 := hT.c3
  have s4 := hT.c4
  have sl := hT.lt
  have h := In.self W1
  have hc := h.cell
  refine wp_region_flow 9 (by kernel_rfl) (by kernel_rfl) (fun _ _ d _ _ h => by cases d <;> exact h) ?_; simp only [List.take_succ_cons, List.take_zero, List.drop_succ_cons, List.drop_zero]; simp only [putAll, Act.put, List.setIfInBounds_toArray, List.set]; (try simp only [Nat.reduceAdd]); (try simp only [Nat.zero_add]); (repeat (first | ((with_reducible refine flow_float (v := ?_) ?_ ?_ ?_); rotate_left 1; (focus (with_reducible rfl)); (focus (intro u w1 hw hd w2; (try simp only [depH] at hd); (try simp only [ext] at hd); (try simp only [extU] at hd); (try simp only [Nat.reduceAdd] at hd); (try simp only [Nat.reduceEqDiff] at hd); (try simp only [reduceIte] at hd); (try simp only [and_true] at hd); (try simp only [true_and] at hd); go_simp; exact rfl))) | ((first | ((with_reducible refine flow_pure0 (v := ?_) ?_ ?_ ?_ ?_); rotate_left 1; (focus (with_reducible rfl)); (focus rfl)) | ((with_reducible refine flow_pureg (v := ?_) (j := ?_) (b := ?_) ?_ ?_ ?_ ?_); rotate_left 3; (focus (with_reducible rfl)); (focus (intro u w1 hw hd; (try simp only [depH] at hd); (try simp only [ext] at hd); (try simp only [extU] at hd); (try simp only [Nat.reduceAdd] at hd); (try simp only [Nat.reduceEqDiff] at hd); (try simp only [reduceIte] at hd); (try simp only [and_true] at hd); (try simp only [true_and] at hd); simp [yielded, hd]; done)))); (focus (intro u w1 hw hd; (try simp only [depH] at hd); (try simp only [ext] at hd); (try simp only [extU] at hd); (try simp only [Nat.reduceAdd] at hd); (try simp only [Nat.reduceEqDiff] at hd); (try simp only [reduceIte] at hd); (try simp only [and_true] at hd); (try simp only [true_and] at hd); have hc' := hw.cell; first | (go_simp; exact rfl) | (go_simp; go_at_call 44; ((with_reducible refine (h1 _).mono ?_)); rintro e w'' ⟨rfl, hb⟩; refine ⟨?_, hb⟩; exact rfl)))) | ((with_reducible refine flow_skipg (j := ?_) (b := ?_) ?_ ?_ ?_); rotate_left 2; (focus (with_reducible rfl)); (focus (intro u w1 hw hd; (try simp only [depH] at hd); (try simp only [ext] at hd); (try simp only [extU] at hd); (try simp only [Nat.reduceAdd] at hd); (try simp only [Nat.reduceEqDiff] at hd); (try simp only [reduceIte] at hd); (try simp only [and_true] at hd); (try simp only [true_and] at hd); simp [yielded, hd]; done))) | ((with_reducible refine flow_alloc (t := ?_) (zs := ?_) ?_ ?_ ?_ ?_); rotate_left 2; (focus (with_reducible rfl)); (focus rfl); (focus (intro u w1; go_simp; exact rfl)))))
  (try clear hc hf h); intro u w' h ha hdi; replace h := h.ins; (try simp only [World.size_alloc] at h); (try dsimp only at ha); (repeat rw [World.size_alloc] at ha); (try simp only [allH] at ha); (try simp only [ext] at ha); (try simp only [extU] at ha); (try simp only [Nat.reduceAdd] at ha); (try simp only [Nat.reduceEqDiff] at ha); (try simp only [reduceIte] at ha); (try simp only [and_true] at ha); (try simp only [true_and] at ha); have hc := h.cell; have hf := h.frozen
  (try obtain ha := ha); (try dsimp only);  simp only [ha]; clear ha hdi 
  have hT2 := hT.call h.bel
  have hin2 := hin.call h.bel
  have q0 := hT2.c0
  have q1 := hT2.c1
  have q2 := hT2.c2
  have q3 := hT2.c3
  have q4 := hT2.c4
  have f0 := hT2.frozen 0
  have f1 := hT2.frozen 1
  have f2 := hT2.frozen 2
  have f3 := hT2.frozen 3
  have f4 := hT2.frozen 4
  have ql := hT2.lt
  have K1 := Lib.hid (((((hT2.set 0 (.int .u64 N1)).set 1 (.string N2)).set 2 (.bool N3)).set 3 (.int .u64 N4)).set 4 (.string N5))
  have K2 := Lib.hid (((((hin2.setCell (p := ⟨T, 0, none⟩) hN (.int .u64 N1)).setCell (p := ⟨T, 1, none⟩) hN (.string N2)).setCell (p := ⟨T, 2, none⟩) hN (.bool N3)).setCell (p := ⟨T, 3, none⟩) hN (.int .u64 N4)).setCell (p := ⟨T, 4, none⟩) hN (.string N5))
  clear h hc hf hT hin hT2 hin2 h1 x0 x1 x2 x3 x4 xl s0 s1 s2 s3 s4 sl bx
  go_wp2_with fail
  go_end0
  exact ⟨rfl, K1.out, K2.out⟩
set_option maxRecDepth 100000 in
set_option maxHeartbeats 4000000 in
theorem feach_any {j : Nat} (N : Nat) (w0 W : World) (T : Nat) (v : Value) (qs : List Rat) (F : Nat → Rat) (hv : VecAt w0 v qs) (hF : ∀ i, F i = qs.getD i 0) (hT : Bx W T 298 (fcs 0)) (hq : ∀ i, SzK j (qs.getD i 0)) (hcap : 1 + qs.length * (j + 1) < 17592186044416) (hl : qs.length ≤ 4096) (hin : In N w0 W) (hN : N ≤ T) (hN0 : w0.heap.size ≤ N) :
    Calls Tryz.prog 236 #[.func (.func 237) #[.pointer (some ⟨T, 0, none⟩)] #[], v] W fun e w' => e = .returned (.tuple #[]) ∧ Bx w' T 298 (fcs (sumTo F qs.length)) ∧ In N w0 w' := by
  have eg : ∀ args w, (callFunc 237 args).run Tryz.prog w = .ok (.enter 237 args) w := enters_of Tryz.func237 (by kernel_rfl) rfl
  have hsz := sumTo_szk (F := F) (j := j) (fun t => by rw [hF]; exact hq t)
  have HV := Lib.hid hv
  obtain ⟨a, k, rfl⟩ := hv.shape
  obtain ⟨n, hn⟩ : ∃ n, n = qs.length := ⟨_, rfl⟩
  rw [← hn] at hcap hl ⊢
  have HN := Lib.hid hn
  have HSZ := Lib.hid hsz
  have HF := Lib.hid hF
  have HQ := Lib.hid hq
  have HC := Lib.hid hcap
  clear hv hn hsz hF hq hcap
  go_enter Tryz.func236, Tryz.ntmps236
  go_wp2_with fail
  go_loopw [8] (fun v8 wr => ∃ i : Nat, i ≤ n ∧ v8 = .int .i64 i ∧ Bx wr T 298 (fcs (sumTo F i)) ∧ In N w0 wr) (fun v8 _ => n - (RowKit.intOf v8).toNat)
  case atStart => exact ⟨0, Nat.zero_le _, rfl, hT, hin⟩
  case round =>
    clear hT hin
    obtain ⟨i, hi, rfl, hT, hin⟩ := hrel
    by_cases hin2 : i < n
    · have hiI : (i : Int) < n := by omega
      have hi0 : (0 : Int) ≤ i := by omega
      have hiw : IntKind.i64.wrap ((i : Int) + 1) = ((i + 1 : Nat) : Int) := IntWalk.i64_in _ (by omega)
      obtain ⟨b1, o1, _, B1, B2, B3, B4, B5, e1, hb1, _, hf1, y0, y1, y2, y3, y4⟩ := HV.out.at (i := i) (by rw [← HN.out]; exact hin2)
      simp only [Value.slice.injEq] at e1
      obtain ⟨rfl, _, hk1⟩ := e1
      subst hk1
      rw [← hin.cell b1 _ (by omega)] at y0 y1 y2 y3 y4
      have hbw1 : b1 < wr.heap.size := by have := hin.siz; omega
      have hcp := HC.out
      have hci : (i + 1) * (j + 1) ≤ n * (j + 1) := Nat.mul_le_mul_right _ (by omega)
      rw [Nat.add_mul, Nat.one_mul] at hci
      have hcon := tadd_any N w0 (wr.alloc (.cells #[.int .u64 B1, .string B2, .bool B3, .int .u64 B4, .string B5] 52)) T (sumTo F i) (qs.getD i 0) (hT.alloc _) (HSZ.out i) (HQ.out i) (by omega) (hin.alloc _) hN
      rw [show sumTo F i + qs.getD i 0 = sumTo F (i + 1) by rw [← HF.out]; rfl, hf1] at hcon
      clear hT hin hf1 hb1
      go_wp2_with fail
      (refine hcon.mono ?_)
      rintro e w2 ⟨rfl, hT2, hin3⟩
      clear hcon y0 y1 y2 y3 y4 hbw1
      go_wp2_with fail
      exact ⟨⟨i + 1, by omega, by go_num, hT2, hin3⟩, by simp [RowKit.intOf]; omega⟩
    · obtain rfl : i = n := by omega
      have hiI : ¬ (i : Int) < i := by omega
      go_wp2_with fail
      go_end0
      exact ⟨rfl, hT, hin⟩
set_option maxRecDepth 100000 in
set_option maxHeartbeats 2000000 in
theorem fsum_any {j : Nat} (w : World) (v : Value) (qs : List Rat) (hv : VecAt w v qs) (hq : ∀ i, SzK j (qs.getD i 0)) (hcap : 1 + qs.length * (j + 1) < 17592186044416) (hl : qs.length ≤ 4096) :
    Calls Tryz.prog 173 #[v] w fun e w' => e = .returned (fracV (sumTo (fun i => qs.getD i 0) qs.length)) ∧ Below w.heap.size w w' := by
  have h1 := fun W T (hT : Bx W T 298 (fcs 0)) (hin : In (w.heap.size + 1) (w.alloc (.cells #[.int .u64 0, .string ⟨#[]⟩, .bool false, .int .u64 0, .string ⟨#[]⟩] 52)) W) (hN : w.heap.size + 1 ≤ T) => feach_any (j := j) (w.heap.size + 1) (w.alloc (.cells #[.int .u64 0, .string ⟨#[]⟩, .bool false, .int .u64 0, .string ⟨#[]⟩] 52)) W T v qs (fun i => qs.getD i 0) (hv.call ((Below.refl _ _).alloc (Nat.le_refl _) _)) (fun _ => rfl) hT hq hcap hl hin hN (by rw [World.size_alloc]; exact Nat.le_refl _)
  obtain ⟨a, k, rfl⟩ := hv.shape
  obtain ⟨z, hz⟩ : ∃ z, z = sumTo (fun i => qs.getD i 0) qs.length := ⟨_, rfl⟩
  rw [← hz] at h1 ⊢
  obtain ⟨n, hn⟩ : ∃ n, n = qs.length := ⟨_, rfl⟩
  rw [← hn] at h1 ⊢
  obtain ⟨Z, hZ⟩ : ∃ Z, Z = w.heap.size := ⟨_, rfl⟩
  have HX := Lib.hid hZ
  obtain ⟨N1, N2, N3, N4, N5, hn1, hn2⟩ : ∃ A1 A2 A3 A4 A5, fracV z = .agg #[.int .u64 A1, .string A2, .bool A3, .int .u64 A4, .string A5] ∧ fcs z = [.int .u64 A1, .string A2, .bool A3, .int .u64 A4, .string A5] := ⟨_, _, _, _, _, rfl, rfl⟩
  rw [hn2] at h1
  rw [hn1]
  clear hz hn hv hq hcap hn1 hn2
  go_enter Tryz.func173, Tryz.ntmps173
  go_wp2_with fail
  ((with_reducible refine (h1 _ _ ?_ ?_ ?_).mono ?_))
  · exact Bx.new_at _ _ _ (by simp)
  · exact (In.of (w.alloc (.cells #[.int .u64 0, .string ⟨#[]⟩, .bool false, .int .u64 0, .string ⟨#[]⟩] 52)) (by rw [World.size_alloc])).alloc _
  · exact Nat.le_refl _
  rintro e w2 ⟨rfl, hT, hin⟩
  have bq : Bx w2 Z 52 [.int .u64 0, .string ⟨#[]⟩, .bool false, .int .u64 0, .string ⟨#[]⟩] := Bx.below (Bx.new_at w #[.int .u64 0, .string ⟨#[]⟩, .bool false, .int .u64 0, .string ⟨#[]⟩] 52 hZ) hin.bel (by omega)
  have hin2 : In Z w w2 := hin.out (by rw [hZ]; exact (In.self w).alloc _) (by omega)
  rw [← hZ] at hT ⊢
  clear hZ hin h1
  have s0 := hT.c0
  have s1 := hT.c1
  have s2 := hT.c2
  have s3 := hT.c3
  have s4 := hT.c4
  have sl := hT.lt
  have q0 := bq.c0
  have q1 := bq.c1
  have q2 := bq.c2
  have q3 := bq.c3
  have q4 := bq.c4
  have f0 := bq.frozen 0
  have f1 := bq.frozen 1
  have f2 := bq.frozen 2
  have f3 := bq.frozen 3
  have f4 := bq.frozen 4
  have ql := bq.lt
  have K1 := Lib.hid (((((bq.set 0 (.int .u64 N1)).set 1 (.string N2)).set 2 (.bool N3)).set 3 (.int .u64 N4)).set 4 (.string N5))
  have K2 := Lib.hid (((((hin2.setCell (p := ⟨Z, 0, none⟩) (Nat.le_refl _) (.int .u64 N1)).setCell (p := ⟨Z, 1, none⟩) (Nat.le_refl _) (.string N2)).setCell (p := ⟨Z, 2, none⟩) (Nat.le_refl _) (.bool N3)).setCell (p := ⟨Z, 3, none⟩) (Nat.le_refl _) (.int .u64 N4)).setCell (p := ⟨Z, 4, none⟩) (Nat.le_refl _) (.string N5))
  clear hT bq hin2
  go_wp2_with fail
  have k1 := K1.out
  have k2 := K2.out
  clear K1 K2 s0 s1 s2 s3 s4 sl q0 q1 q2 q3 q4 f0 f1 f2 f3 f4 ql
  generalize ((((w2.setCell ⟨Z, 0, none⟩ (.int .u64 N1)).setCell ⟨Z, 1, none⟩ (.string N2)).setCell ⟨Z, 2, none⟩ (.bool N3)).setCell ⟨Z, 3, none⟩ (.int .u64 N4)).setCell ⟨Z, 4, none⟩ (.string N5) = W5 at *
  have e0 : W5.cell? ⟨Z, 0, none⟩ = some (.int .u64 N1) := k1.cell 0
  have e1 : W5.cell? ⟨Z, 1, none⟩ = some (.string N2) := k1.cell 1
  have e2 : W5.cell? ⟨Z, 2, none⟩ = some (.bool N3) := k1.cell 2
  have e3 : W5.cell? ⟨Z, 3, none⟩ = some (.int .u64 N4) := k1.cell 3
  have e4 : W5.cell? ⟨Z, 4, none⟩ = some (.string N5) := k1.cell 4
  refine bodyPost_ret (v := .agg #[.int .u64 N1, .string N2, .bool N3, .int .u64 N4, .string N5]) ?_ rfl ⟨rfl, by rw [← HX.out]; exact k2.bel⟩
  simp [results, Tryz.results173, go_sem, e0, e1, e2, e3, e4]
end Gus
end
section
/- vecs.Dot. -/
namespace Gus
open Go Go.RowKit Go.Proofs
def dotV (qs ps : List Rat) (n : Nat) : Rat := sumTo (fun i => qs.getD i 0 * ps.getD i 0) n
theorem sumTo_congr {F G : Nat → Rat} : ∀ n, (∀ i, i < n → F i = G i) → sumTo F n = sumTo G n
  | 0, _ => rfl
  | n + 1, h => by rw [sumTo, sumTo, sumTo_congr n (fun i hi => h i (by omega)), h n (by omega)]
set_option maxRecDepth 100000 in
set_option maxHeartbeats 2000000 in
theorem vdot_ok {j l : Nat} (w : World) (x y : Value) (qs ps : List Rat) (n : Nat) (hx : VecAt w x qs) (hy : VecAt w y ps) (hl : qs.length = n) (hl' : ps.length = n) (hn : n ≤ 2048) (hq : ∀ i, SzK j (qs.getD i 0)) (hp : ∀ i, SzK l (ps.getD i 0)) (hcap : 1 + n * (j + l + 1) < 17592186044416) :
    Calls Tryz.prog 87 #[x, y] w fun e w' => e = .returned (.tuple #[fracV (dotV qs ps n), .int .i64 0]) ∧ Below w.heap.size w w' := by
  have eg : ∀ args w, (callFunc 25 args).run Tryz.prog w = .ok (.enter 25 args) w := enters_of Tryz.func25 (by kernel_rfl) rfl
  have hjl : 0 < n → j + l + 1 ≤ n * (j + l + 1) := fun h => Nat.le_mul_of_pos_left _ h
  have h1 := fun W (hb : Below w.heap.size w W) => veach_any (· * ·) W x y qs ps n 25 #[] (hx.call hb) (hy.call hb) hl hl' hn eg (fun i W2 hi _ => fmul_any _ _ (hq i) (hp i) (by have := hjl (by omega); omega) W2)
  obtain ⟨ms, hms⟩ : ∃ ms, ms = (List.range n).map fun i => qs.getD i 0 * ps.getD i 0 := ⟨_, rfl⟩
  have hml : ms.length = n := by rw [hms]; simp
  have hmi : ∀ i, i < n → ms.getD i 0 = qs.getD i 0 * ps.getD i 0 := fun i hi => by
    rw [hms, List.getD_eq_getElem?_getD, List.getElem?_map, List.getElem?_range hi]; rfl
  have hmz : ∀ i, SzK (j + l) (ms.getD i 0) := fun i => by
    by_cases hi : i < n
    · rw [hmi i hi]; exact (hq i).mul (hp i)
    · rw [List.getD_eq_getElem?_getD, List.getElem?_eq_none (by omega)]
      exact SzK.zero.mono (by have := (hq 0).pos; omega)
  rw [← hms] at h1
  have h2 := fun W v (h : VecAt W v ms) => fsum_any (j := j + l) W v ms h hmz (by rw [hml]; exact hcap) (by omega)
  rw [hml, sumTo_congr n hmi] at h2
  unfold dotV
  obtain ⟨z, hz⟩ : ∃ z, z = sumTo (fun i => qs.getD i 0 * ps.getD i 0) n := ⟨_, rfl⟩
  rw [← hz] at h2 ⊢
  obtain ⟨a, k, rfl⟩ := hx.shape
  obtain ⟨a', k', rfl⟩ := hy.shape
  rw [hl, hl'] at h1
  rw [hl, hl']
  obtain ⟨X, hX⟩ : ∃ X, X = w.heap.size := ⟨_, rfl⟩
  have HX := Lib.hid hX
  have HML := Lib.hid hml
  clear hx hy hl hl' hq hp hcap hjl hms hml hmi hmz hz eg
  go_enter Tryz.func87, Tryz.ntmps87
  go_wp2_with fail
  ((with_reducible refine (h1 _ ?_).mono ?_))
  · exact ((In.self w).alloc _).bel
  rintro e w2 ⟨⟨d, rfl, hd⟩, hb⟩
  have hin := ((In.self w).alloc (.cells #[.int .u64 0, .string ⟨#[]⟩, .bool false, .int .u64 0, .string ⟨#[]⟩] 52)).call hb
  have bq := (Bx.new_at w #[.int .u64 0, .string ⟨#[]⟩, .bool false, .int .u64 0, .string ⟨#[]⟩] 52 hX).call hb
  obtain ⟨da, dk, rfl⟩ := hd.shape
  rw [HML.out] at hd ⊢
  rw [← hX]
  clear hX hb h1
  go_wp2_with fail
  ((with_reducible refine (h2 _ _ hd).mono ?_))
  rintro e w3 ⟨rfl, hb⟩
  replace hin := hin.call hb
  replace bq := bq.call hb
  clear hb h2 hd
  ((obtain ⟨A1, A2, A3, A4, A5, hA⟩ : ∃ A1 A2 A3 A4 A5, fracV z = .agg #[.int .u64 A1, .string A2, .bool A3, .int .u64 A4, .string A5] := ⟨_, _, _, _, _, rfl⟩);
              ((try rw [hA]));
              (have HA := Lib.hid hA);
              (clear hA);
              (have q0 := bq.c0);
              (have q1 := bq.c1);
              (have q2 := bq.c2);
              (have q3 := bq.c3);
              (have q4 := bq.c4);
              (have f0 := bq.frozen 0);
              (have f1 := bq.frozen 1);
              (have f2 := bq.frozen 2);
              (have f3 := bq.frozen 3);
              (have f4 := bq.frozen 4);
              (have ql := bq.lt);
              (have K1 := Lib.hid ((((((bq.set 0 (.int .u64 A1)).set 1 (.string A2)).set 2 (.bool A3)).set 3 (.int .u64 A4)).set 4 (.string A5))));
              (have K2 := Lib.hid ((((((hin.setCell (p := ⟨X, 0, none⟩) (by first | (simp; done) | (have := HX.out; simp; omega)) (.int .u64 A1)).setCell (p := ⟨X, 1, none⟩) (by first | (simp; done) | (have := HX.out; simp; omega)) (.string A2)).setCell (p := ⟨X, 2, none⟩) (by first | (simp; done) | (have := HX.out; simp; omega)) (.bool A3)).setCell (p := ⟨X, 3, none⟩) (by first | (simp; done) | (have := HX.out; simp; omega)) (.int .u64 A4)).setCell (p := ⟨X, 4, none⟩) (by first | (simp; done) | (have := HX.out; simp; omega)) (.string A5))));
              (clear bq hin);
              (go_wp2_with fail);
              (have k1 := K1.out);
              (have k2 := K2.out);
              (clear q0 q1 q2 q3 q4 f0 f1 f2 f3 f4 ql K1 K2);
              (generalize (((((w3.setCell ⟨X, 0, none⟩ (.int .u64 A1)).setCell ⟨X, 1, none⟩ (.string A2)).setCell ⟨X, 2, none⟩ (.bool A3)).setCell ⟨X, 3, none⟩ (.int .u64 A4)).setCell ⟨X, 4, none⟩ (.string A5)) = W5 at *);
              (have e0 : W5.cell? ⟨X, 0, none⟩ = some (.int .u64 A1) := k1.cell 0);
              (have e1 : W5.cell? ⟨X, 1, none⟩ = some (.string A2) := k1.cell 1);
              (have e2 : W5.cell? ⟨X, 2, none⟩ = some (.bool A3) := k1.cell 2);
              (have e3 : W5.cell? ⟨X, 3, none⟩ = some (.int .u64 A4) := k1.cell 3);
              (have e4 : W5.cell? ⟨X, 4, none⟩ = some (.string A5) := k1.cell 4);
              (have hz := k2.bel);
              (have hA := HA.out);
              (refine bodyPost_ret (v := .tuple #[.agg #[.int .u64 A1, .string A2, .bool A3, .int .u64 A4, .string A5], .int .i64 0]) ?_ rfl ⟨by rw [hA], hz⟩);
              (simp [results, Tryz.results87, go_sem, e0, e1, e2, e3, e4]))
end Gus
end
section
/- The rows of a dense matrix as it is read; matrices whose slice has room. -/
namespace Gus
open Go Go.RowKit Go.Proofs
def rowV (c : Nat) (qs : List Rat) (i : Nat) : List Rat := (List.range c).map fun t => mvals c qs i t
theorem rowV_getD {c : Nat} (qs : List Rat) (i : Nat) {t : Nat} (ht : t < c) : (rowV c qs i).getD t 0 = mvals c qs i t := by
  rw [rowV, List.getD_eq_getElem?_getD, List.getElem?_map, List.getElem?_range ht]; rfl
end Gus
end
section
/- mats.Apply. -/
namespace Gus
open Go Go.RowKit Go.Proofs
/-- the product of a dense matrix and a vector -/
def mappL (r c : Nat) (qs ps : List Rat) : List Rat := (List.range r).map fun i => dotV (rowV c qs i) ps c
def VRes (bad : Bool) (L : List Rat) (w : World) (v : Value) (e : Int) : Prop := (bad = true ∧ e = 1 ∧ v = .slice none 0 0) ∨ (bad = false ∧ e = 0 ∧ VecAt w v L)
theorem VRes.call {bad : Bool} {L : List Rat} {w w' : World} {v : Value} {e : Int} (h : VRes bad L w v e) (hb : Below w.heap.size w w') : VRes bad L w' v e := h.imp id fun h => ⟨h.1, h.2.1, h.2.2.call hb⟩
end Gus
end
section
/- mats.Symmetric, vecs.Same. -/
namespace Gus
open Go Go.RowKit Go.Proofs
set_option maxRecDepth 100000 in
set_option maxHeartbeats 2000000 in
theorem equalV_any (w : World) (v1 v2 : Value) (es1 es2 : List Rat) (h1 : VecAt w v1 es1) (h2 : VecAt w v2 es2) (hl : es1.length ≤ 4096) :
    Calls Tryz.prog 78 #[v1, v2] w fun e w' => e = .returned (.bool (decide (es1 = es2))) ∧ Below w.heap.size w w' := by
  have H1 := Lib.hid h1
  have H2 := Lib.hid h2
  obtain ⟨a1, c1, rfl⟩ := h1.shape
  obtain ⟨a2, c2, rfl⟩ := h2.shape
  obtain ⟨L, hL⟩ : ∃ L, L = es1.length := ⟨_, rfl⟩
  obtain ⟨M, hM⟩ : ∃ M, M = es2.length := ⟨_, rfl⟩
  rw [← hL] at hl ⊢
  rw [← hM]
  by_cases hLM : L = M
  · have hne : ((L : Int) != M) = false := by simp [hLM]
    obtain ⟨r, hr⟩ : ∃ r, r = decide (es1 = es2) := ⟨_, rfl⟩
    rw [← hr]
    have HR : Hid (r = decide (es1.drop 0 = es2.drop 0)) := Lib.hid hr
    have HL := Lib.hid hL
    have HM := Lib.hid hM
    have HLM := Lib.hid hLM
    clear hL hM hLM hr
    go_enter Tryz.func78, Tryz.ntmps78
    go_wp2_with fail
    go_loopw [13] (fun v13 wr => ∃ j : Nat, j ≤ L ∧ v13 = .int .i64 j ∧ Below w.heap.size w wr ∧ Hid (r = decide (es1.drop j = es2.drop j))) (fun v13 _ => L - (RowKit.intOf v13).toNat)
    case atStart => exact ⟨0, Nat.zero_le _, rfl, Below.refl _ _, HR⟩
    case round =>
      clear HR
      obtain ⟨j, hj, rfl, hbel, HR⟩ := hrel
      by_cases hjL : j < L
      · have hd1 := drop_getD es1 0 (show j < es1.length by rw [← HL.out]; exact hjL)
        have hd2 := drop_getD es2 0 (show j < es2.length by rw [← HM.out, ← HLM.out]; exact hjL)
        obtain ⟨b1, o1, k1, A1, A2, A3, A4, A5, hv1, hb1, _, hf1, x0, x1, x2, x3, x4⟩ := (H1.out.call hbel).at (i := j) (by rw [← HL.out]; exact hjL)
        obtain ⟨b2, o2, k2, B1, B2, B3, B4, B5, hv2, hb2, _, hf2, y0, y1, y2, y3, y4⟩ := (H2.out.call hbel).at (i := j) (by rw [← HM.out, ← HLM.out]; exact hjL)
        simp only [Value.slice.injEq] at hv1 hv2
        obtain ⟨rfl, _, hk1⟩ := hv1
        obtain ⟨rfl, _, hk2⟩ := hv2
        subst hk1 hk2
        obtain ⟨e1, he1⟩ : ∃ e, e = es1.getD j 0 := ⟨_, rfl⟩
        obtain ⟨e2, he2⟩ : ∃ e, e = es2.getD j 0 := ⟨_, rfl⟩
        have hneq := fun W => fracNeq_run e1 e2 W
        have hr := HR.out
        rw [hd1, hd2, ← he1, ← he2] at hr
        rw [← he1] at hf1
        rw [← he2] at hf2
        rw [hf1, hf2] at hneq
        have hjI : (j : Int) < L := by omega
        have hjM : (j : Int) < M := by have := HLM.out; omega
        have hj0 : (0 : Int) ≤ j := by omega
        have hjw : IntKind.i64.wrap ((j : Int) + 1) = ((j + 1 : Nat) : Int) := IntWalk.i64_in _ (by omega)
        clear hd1 hd2 HR
        by_cases heq : e1 = e2
        · rw [show (!decide (e1 = e2)) = false by simp [heq]] at hneq
          have hr2 : r = decide (es1.drop (j + 1) = es2.drop (j + 1)) := by rw [hr, heq]; simp
          have HR2 := Lib.hid hr2
          clear hr2 hr heq he1 he2 hf1 hf2
          go_upto_region 6 with fail
          have h := In.self wr
          have hc := h.cell
          refine wp_region_flow 8 (by kernel_rfl) (by kernel_rfl) (fun _ _ d _ _ h => by cases d <;> exact h) ?_; simp only [List.take_succ_cons, List.take_zero, List.drop_succ_cons, List.drop_zero]; simp only [putAll, Act.put, List.setIfInBounds_toArray, List.set]; (try simp only [Nat.reduceAdd]); (try simp only [Nat.zero_add]); (repeat (first | ((with_reducible refine flow_float (v := ?_) ?_ ?_ ?_); rotate_left 1; (focus (with_reducible rfl)); (focus (intro u w1 hw hd w2; (try simp only [depH] at hd); (try simp only [ext] at hd); (try simp only [extU] at hd); (try simp only [Nat.reduceAdd] at hd); (try simp only [Nat.reduceEqDiff] at hd); (try simp only [reduceIte] at hd); (try simp only [and_true] at hd); (try simp only [true_and] at hd); go_simp; exact rfl))) | ((first | ((with_reducible refine flow_pure0 (v := ?_) ?_ ?_ ?_ ?_); rotate_left 1; (focus (with_reducible rfl)); (focus rfl)) | ((with_reducible refine flow_pureg (v := ?_) (j := ?_) (b := ?_) ?_ ?_ ?_ ?_); rotate_left 3; (focus (with_reducible rfl)); (focus (intro u w1 hw hd; (try simp only [depH] at hd); (try simp only [ext] at hd); (try simp only [extU] at hd); (try simp only [Nat.reduceAdd] at hd); (try simp only [Nat.reduceEqDiff] at hd); (try simp only [reduceIte] at hd); (try simp only [and_true] at hd); (try simp only [true_and] at hd); simp [yielded, hd]; done)))); (focus (intro u w1 hw hd; (try simp only [depH] at hd); (try simp only [ext] at hd); (try simp only [extU] at hd); (try simp only [Nat.reduceAdd] at hd); (try simp only [Nat.reduceEqDiff] at hd); (try simp only [reduceIte] at hd); (try simp only [and_true] at hd); (try simp only [true_and] at hd); have hc' := hw.cell; go_simp; exact rfl))) | ((with_reducible refine flow_skipg (j := ?_) (b := ?_) ?_ ?_ ?_); rotate_left 2; (focus (with_reducible rfl)); (focus (intro u w1 hw hd; (try simp only [depH] at hd); (try simp only [ext] at hd); (try simp only [extU] at hd); (try simp only [Nat.reduceAdd] at hd); (try simp only [Nat.reduceEqDiff] at hd); (try simp only [reduceIte] at hd); (try simp only [and_true] at hd); (try simp only [true_and] at hd); simp [yielded, hd]; done))) | ((with_reducible refine flow_alloc (t := ?_) (zs := ?_) ?_ ?_ ?_ ?_); rotate_left 2; (focus (with_reducible rfl)); (focus rfl); (focus (intro u w1; go_simp; exact rfl)))))
          (try clear hc hf h); intro u w' h ha hdi; replace h := h.ins; (try simp only [World.size_alloc] at h); (try dsimp only at ha); (repeat rw [World.size_alloc] at ha); (try simp only [allH] at ha); (try simp only [ext] at ha); (try simp only [extU] at ha); (try simp only [Nat.reduceAdd] at ha); (try simp only [Nat.reduceEqDiff] at ha); (try simp only [reduceIte] at ha); (try simp only [and_true] at ha); (try simp only [true_and] at ha); have hc := h.cell; have hf := h.frozen
          (try obtain ha := ha); (try dsimp only);  simp only [ha]; clear ha hdi 
          have hbel2 := hbel.trans (h.bel.mono hbel.size)
          clear hc hf h
          go_wp2_with fail
          exact ⟨⟨j + 1, by omega, by go_num, hbel2, HR2⟩, by simp [RowKit.intOf]; omega⟩
        · rw [show (!decide (e1 = e2)) = true by simp [heq]] at hneq
          have hr2 : r = false := by rw [hr]; simp [heq]
          subst hr2
          clear hr heq he1 he2 hf1 hf2
          go_upto_region 6 with fail
          have h := In.self wr
          have hc := h.cell
          refine wp_region_flow 8 (by kernel_rfl) (by kernel_rfl) (fun _ _ d _ _ h => by cases d <;> exact h) ?_; simp only [List.take_succ_cons, List.take_zero, List.drop_succ_cons, List.drop_zero]; simp only [putAll, Act.put, List.setIfInBounds_toArray, List.set]; (try simp only [Nat.reduceAdd]); (try simp only [Nat.zero_add]); (repeat (first | ((with_reducible refine flow_float (v := ?_) ?_ ?_ ?_); rotate_left 1; (focus (with_reducible rfl)); (focus (intro u w1 hw hd w2; (try simp only [depH] at hd); (try simp only [ext] at hd); (try simp only [extU] at hd); (try simp only [Nat.reduceAdd] at hd); (try simp only [Nat.reduceEqDiff] at hd); (try simp only [reduceIte] at hd); (try simp only [and_true] at hd); (try simp only [true_and] at hd); go_simp; exact rfl))) | ((first | ((with_reducible refine flow_pure0 (v := ?_) ?_ ?_ ?_ ?_); rotate_left 1; (focus (with_reducible rfl)); (focus rfl)) | ((with_reducible refine flow_pureg (v := ?_) (j := ?_) (b := ?_) ?_ ?_ ?_ ?_); rotate_left 3; (focus (with_reducible rfl)); (focus (intro u w1 hw hd; (try simp only [depH] at hd); (try simp only [ext] at hd); (try simp only [extU] at hd); (try simp only [Nat.reduceAdd] at hd); (try simp only [Nat.reduceEqDiff] at hd); (try simp only [reduceIte] at hd); (try simp only [and_true] at hd); (try simp only [true_and] at hd); simp [yielded, hd]; done)))); (focus (intro u w1 hw hd; (try simp only [depH] at hd); (try simp only [ext] at hd); (try simp only [extU] at hd); (try simp only [Nat.reduceAdd] at hd); (try simp only [Nat.reduceEqDiff] at hd); (try simp only [reduceIte] at hd); (try simp only [and_true] at hd); (try simp only [true_and] at hd); have hc' := hw.cell; go_simp; exact rfl))) | ((with_reducible refine flow_skipg (j := ?_) (b := ?_) ?_ ?_ ?_); rotate_left 2; (focus (with_reducible rfl)); (focus (intro u w1 hw hd; (try simp only [depH] at hd); (try simp only [ext] at hd); (try simp only [extU] at hd); (try simp only [Nat.reduceAdd] at hd); (try simp only [Nat.reduceEqDiff] at hd); (try simp only [reduceIte] at hd); (try simp only [and_true] at hd); (try simp only [true_and] at hd); simp [yielded, hd]; done))) | ((with_reducible refine flow_alloc (t := ?_) (zs := ?_) ?_ ?_ ?_ ?_); rotate_left 2; (focus (with_reducible rfl)); (focus rfl); (focus (intro u w1; go_simp; exact rfl)))))
          (try clear hc hf h); intro u w' h ha hdi; replace h := h.ins; (try simp only [World.size_alloc] at h); (try dsimp only at ha); (repeat rw [World.size_alloc] at ha); (try simp only [allH] at ha); (try simp only [ext] at ha); (try simp only [extU] at ha); (try simp only [Nat.reduceAdd] at ha); (try simp only [Nat.reduceEqDiff] at ha); (try simp only [reduceIte] at ha); (try simp only [and_true] at ha); (try simp only [true_and] at ha); have hc := h.cell; have hf := h.frozen
          (try obtain ha := ha); (try dsimp only);  simp only [ha]; clear ha hdi 
          have hbel2 := hbel.trans (h.bel.mono hbel.size)
          clear hc hf h
          go_wp2_with fail
          go_ret
          exact ⟨rfl, hbel2⟩
      · have hr := HR.out
        rw [List.drop_eq_nil_of_le (by rw [← HL.out]; omega), List.drop_eq_nil_of_le (by rw [← HM.out, ← HLM.out]; omega)] at hr
        have hr2 : r = true := by rw [hr]; rfl
        subst hr2
        have hjI : ¬ (j : Int) < L := by omega
        clear hr HR
        go_wp2_with fail
        go_ret
        exact ⟨rfl, hbel⟩
  · have hne : ((L : Int) != M) = true := by
      have : ¬ (L : Int) = M := by omega
      simpa using this
    rw [show decide (es1 = es2) = false from decide_eq_false fun e => hLM (by rw [hL, hM, e])]
    clear hL hM hLM
    go_enter Tryz.func78, Tryz.ntmps78
    go_wp2_with fail
    go_ret
    exact ⟨rfl, Below.refl _ _⟩
theorem vsame_any (w : World) (v1 v2 : Value) (es1 es2 : List Rat) (h1 : VecAt w v1 es1) (h2 : VecAt w v2 es2) (hl : es1.length ≤ 4096) :
    Calls Tryz.prog 20 #[v1, v2] w fun e w' => e = .returned (.bool (decide (es1 = es2))) ∧ Below w.heap.size w w' := by
  have h := equalV_any w v1 v2 es1 es2 h1 h2 hl
  obtain ⟨z, hz⟩ : ∃ z, z = decide (es1 = es2) := ⟨_, rfl⟩
  rw [← hz] at h ⊢
  obtain ⟨a1, c1, rfl⟩ := h1.shape
  obtain ⟨a2, c2, rfl⟩ := h2.shape
  clear h1 h2 hl hz
  go_enter Tryz.func20, Tryz.ntmps20
  go_wp2_with fail
  ((with_reducible refine h.mono ?_))
  rintro e w' ⟨rfl, hb⟩
  clear h
  go_wp2_with fail
  go_ret
  exact ⟨rfl, hb⟩
end Gus
end
section
/- Sums, products and transposes of sparse and dense matrices agree. -/
namespace Gus
open Go Go.RowKit Go.Proofs
theorem sumRow_append (qs : List Rat) (i : Nat) : ∀ (A B : List (Nat × Nat × Rat)), sumRow qs (A ++ B) i = sumRow qs A i + sumRow qs B i
  | [], B => by simp [sumRow, Rat.zero_add]
  | x :: A, B => by rw [List.cons_append, sumRow, sumRow, sumRow_append qs i A B, Rat.add_assoc]
theorem sumRow_zero {qs : List Rat} {i : Nat} : ∀ {L : List (Nat × Nat × Rat)}, (∀ x ∈ L, x.1 ≠ i) → sumRow qs L i = 0
  | [], _ => rfl
  | x :: L, h => by rw [sumRow, if_neg (h x (.head _)), sumRow_zero (fun y hy => h y (List.mem_cons_of_mem _ hy)), Rat.zero_add]
theorem rowOf_succ (g : Nat → Rat) (n : Nat) : rowOf g (n + 1) = rowOf g n ++ if g n = 0 then [] else [(n, g n)] := by
  unfold rowOf
  rw [List.range_succ, List.filter_append, List.map_append]
  congr 1
  by_cases h : g n = 0 <;> simp [h]
theorem sumRow_row (qs : List Rat) (g : Nat → Rat) (i : Nat) : ∀ n, sumRow qs ((rowOf g n).map fun e => (i, e.1, e.2)) i = sumTo (fun k => g k * qs.getD k 0) n
  | 0 => rfl
  | n + 1 => by
    rw [rowOf_succ, List.map_append, sumRow_append, sumRow_row qs g i n, sumTo]
    congr 1
    by_cases h : g n = 0
    · rw [if_pos h, h, Rat.zero_mul]; rfl
    · rw [if_neg h]
      simp only [List.map_cons, List.map_nil, sumRow, if_true, Rat.add_zero]
theorem items_succ (r c : Nat) (f : Nat → Nat → Rat) : items (r + 1) c f = items r c f ++ (rowOf (f r) c).map fun e => (r, e.1, e.2) := by
  unfold items
  rw [mrows_succ, itemsF_append, mrows_length, Nat.zero_add]
  simp only [itemsF, List.append_nil]
theorem sumRow_items (qs : List Rat) (c : Nat) (f : Nat → Nat → Rat) {i : Nat} : ∀ r, i < r → sumRow qs (items r c f) i = sumTo (fun k => f i k * qs.getD k 0) c
  | 0, h => absurd h (Nat.not_lt_zero _)
  | r + 1, h => by
    rw [items_succ, sumRow_append]
    by_cases hi : i = r
    · subst hi
      rw [sumRow_zero (L := items i c f) (fun ⟨a, b, q⟩ hx e => by
        have := (mem_items.1 hx).1
        simp only at e; omega), Rat.zero_add, sumRow_row]
    · rw [sumRow_items qs c f r (by omega), sumRow_zero (L := (rowOf (f r) c).map _) (fun x hx e => by
        obtain ⟨y, _, rfl⟩ := List.mem_map.1 hx
        exact hi e.symm), Rat.add_zero]
/-- the sparse product with a vector is the dense one -/
theorem app_eq (r c : Nat) (xs ps : List Rat) : appL r c (mvals c xs) ps = mappL r c xs ps := by
  unfold appL mappL
  refine List.map_congr_left fun i hi => ?_
  rw [sumRow_items ps c _ r (List.mem_range.1 hi), dotV]
  exact sumTo_congr c fun k hk => by rw [rowV_getD xs i hk]
theorem mvals_dense {r c : Nat} (f : Nat → Nat → Rat) {i k : Nat} (hi : i < r) (hk : k < c) : mvals c (dense r c f) i k = f i k := by
  have h : i * c + k < r * c := by
    have := Nat.mul_le_mul_right c (Nat.succ_le_of_lt hi)
    rw [Nat.succ_mul] at this; omega
  rw [mvals, dense, List.getD_eq_getElem?_getD, List.getElem?_map, List.getElem?_range h]
  show f ((i * c + k) / c) ((i * c + k) % c) = _
  rw [(pos_of hk).1, (pos_of hk).2]
end Gus
end
section
/- sparses.Apply, sparses.Form for vectors of any length. -/
namespace Gus
open Go Go.RowKit Go.Proofs
theorem goes_ok {w : World} {v : Value} {r c : Nat} {f : Nat → Nat → Rat} (hS : SpM w v r c f) (hr : r ≤ 2048) (hc : c ≤ 2048) (a : Option Addr) (cap : Nat) (ns : List Nat) (hl : LensAt w a ns) (hn : ns.length ≤ 4096) (hs : ∀ x ∈ ns, x ≤ 2048) :
    Calls Tryz.prog 103 #[v, .slice a ns.length cap] w fun e w' => e = .returned (.int .i64 0) ∧ Below w.heap.size w w' := by
  have hgo := goes_any w v r c _ hS.g (by rw [List.length_map, mrows_length]; omega) (fun i => by
    by_cases hi : i < r
    · have e : ((mrows r c f).map fun es => es.map cI).getD i [] = ((mrows r c f).getD i []).map cI := by
        simp only [List.getD_eq_getElem?_getD, List.getElem?_map, List.getElem?_eq_getElem (show i < (mrows r c f).length by rw [mrows_length]; exact hi)]; rfl
      rw [e, List.length_map]
      exact Nat.le_trans (mrows_row r c f i) (by omega)
    · rw [List.getD_eq_getElem?_getD, List.getElem?_eq_none (by rw [List.length_map, mrows_length]; omega)]; exact Nat.zero_le _) a cap ns hl hn
  have hg0 : goesS r c ((mrows r c f).map fun es => es.map cI) ns = 0 := by
    unfold goesS
    rw [checkS_valid hr hc, if_neg (by decide), if_pos]
    rw [List.all_eq_true]; intro x hx; exact decide_eq_true (hs x hx)
  rw [hg0] at hgo
  exact hgo
set_option maxRecDepth 100000 in
set_option maxHeartbeats 2000000 in
theorem sapp_any {j l : Nat} (w : World) (x y : Value) (r c m : Nat) (qs ps : List Rat) (hx : SpM w x r c (mvals c qs)) (hy : VecAt w y ps) (hl : ps.length = m) (hr : r ≤ 2048) (hc : c ≤ 2048) (hm : m ≤ 2048) (hq : ∀ i, SzK j (qs.getD i 0)) (hp : ∀ i, SzK l (ps.getD i 0)) (hcap : r * c * (j + l + 1) + 1 < 17592186044416) :
    Calls Tryz.prog 66 #[x, y] w fun e w' => (∃ d e', e = .returned (.tuple #[d, .int .i64 e']) ∧ VRes (!decide (m = c)) (mappL r c qs ps) w' d e') ∧ Below w.heap.size w w' := by
  by_cases hmc : m = c
  · have h1 := apply_ok (j := j) (l := l) w x y r c (mvals c qs) ps hx hy hr hc (hl.trans hmc) (fun i k => hq _) hp hcap
    refine h1.mono ?_
    rintro e w' ⟨g, rfl, hg, hv, hb⟩
    rw [app_eq] at hv
    exact ⟨⟨_, _, rfl, .inr ⟨by simp [hmc], rfl, hv.at r (by simp [mappL]) r⟩⟩, hb⟩
  · have hgo := fun W (hb : Below w.heap.size w W) a cap (h : LensAt W a [m]) => goes_ok (hx.call hb) hr hc a cap [m] h (by simp) (fun z hz => by rw [List.mem_singleton.1 hz]; exact hm)
    simp only [List.length_singleton] at hgo
    obtain ⟨a, cap, rfl⟩ := hx.shape
    obtain ⟨va, vc, rfl⟩ := hy.shape
    rw [hl]
    have e1 : ((m : Int) != c) = true := by
      have : ¬ (m : Int) = c := by omega
      simpa using this
    have HB : Hid ((!decide (m = c)) = true) := Lib.hid (by simp [hmc])
    obtain ⟨X, hX⟩ : ∃ X, X = w.heap.size := ⟨_, rfl⟩
    have HX := Lib.hid hX
    clear hx hy hl hq hp hcap hmc
    go_enter Tryz.func66, Tryz.ntmps66
    go_wp2_with fail
    have bx := ((Bx.new_at w #[.int .i64 r, .int .i64 c, .slice a r cap] 30 hX).alloc (.cells #[.slice va m vc] 33)).alloc (.cells #[.slice va m vc] 33)
    have bp := (Bx.new_at (w.alloc (.cells #[.int .i64 r, .int .i64 c, .slice a r cap] 30)) #[.slice va m vc] 33 (n := X + 1) (by rw [World.size_alloc, hX])).alloc (.cells #[.slice va m vc] 33)
    have bl := Bx.new_at ((w.alloc (.cells #[.int .i64 r, .int .i64 c, .slice a r cap] 30)).alloc (.cells #[.slice va m vc] 33)) #[.slice va m vc] 33 (n := X + 1 + 1) (by rw [World.size_alloc, World.size_alloc, hX])
    have hin : In X w (((w.alloc (.cells #[.int .i64 r, .int .i64 c, .slice a r cap] 30)).alloc (.cells #[.slice va m vc] 33)).alloc (.cells #[.slice va m vc] 33)) := by rw [hX]; exact (((In.self w).alloc _).alloc _).alloc _
    rw [← hX]
    generalize ((w.alloc (.cells #[.int .i64 r, .int .i64 c, .slice a r cap] 30)).alloc (.cells #[.slice va m vc] 33)).alloc (.cells #[.slice va m vc] 33) = W1 at *
    ((with_reducible refine (hgo _ ?_ _ _ ?_).mono ?_))
    · rw [← hX]; exact hin.bel
    · intro i hi
      have h0 : i = 0 := by simpa using hi
      subst h0
      exact ⟨X + 1 + 1, 0, _, _, rfl, bl.lt, bl.c0⟩
    rintro e w2 ⟨rfl, hb2⟩
    have bx2 := bx.call hb2
    have bp2 := bp.call hb2
    have hin2 := hin.call hb2
    have x0 := bx2.c0
    have x1 := bx2.c1
    have p0 := bp2.c0
    have hbx := bx2.lt
    have hbp := bp2.lt
    clear hb2 bx bp bl hin hgo hX bx2 bp2
    go_wp2_with fail
    go_ret2
    exact ⟨⟨_, _, rfl, .inl ⟨HB.out, rfl, rfl⟩⟩, by rw [← HX.out]; exact hin2.bel⟩
end Gus
end
section
/- gussetlaw16.Vec. -/
namespace Gus
open Go Go.RowKit Go.Proofs
theorem mEl_beyond (qs : List (Int × Int)) {i : Nat} (h : qs.length ≤ i) : mEl qs i = 0 := by
  unfold mEl
  rw [List.getD_eq_getElem?_getD, List.getElem?_eq_none h]
  show ((0 : Int) : Rat) / _ = 0
  rw [Rat.div_def]
  exact Rat.zero_mul _
theorem pv_stop (qs : List (Int × Int)) (n k : Nat) (h : qs.length ≤ k) : pv (mEl qs) n k = mList qs n := by
  unfold pv mList
  refine List.map_congr_left fun i _ => ?_
  by_cases hi : i < k
  · rw [if_pos hi]
  · rw [if_neg hi, mEl_beyond qs (by omega)]
set_option maxRecDepth 100000 in
set_option maxHeartbeats 4000000 in
theorem lvec_any (w : World) (a : Option Addr) (cap n : Nat) (qs : List (Int × Int)) (hq : QAt w a qs) (hok : QOk qs) (hn : n ≤ 2048) (_hl : qs.length ≤ 1000) :
    Calls Tryz.prog 15 #[.slice a qs.length cap, .int .i64 n] w fun e w' => (∃ d, e = .returned d ∧ VecAt w' d (mList qs n)) ∧ Below w.heap.size w w' := by
  have hmk := mk_vec n (by omega)
  obtain ⟨fc, hfc⟩ : ∃ fc, fc = fcl (List.replicate n 0) := ⟨_, rfl⟩
  rw [← hfc] at hmk
  have HF := Lib.hid hfc
  obtain ⟨L, hL⟩ : ∃ L, L = qs.length := ⟨_, rfl⟩
  rw [← hL]
  have HL := Lib.hid hL
  obtain ⟨g, hg⟩ : ∃ g, g = w.heap.size := ⟨_, rfl⟩
  have HG := Lib.hid hg
  have HQ := Lib.hid hq
  have bv : VBx (w.alloc (.cells fc.toArray 52)) g (pv (mEl qs) n 0) := by
    have := Bx.new_at w fc.toArray 52 hg
    show Bx _ g 52 (fcl _)
    rw [pv_zero, ← HF.out]; exact this
  have hin := (In.self w).alloc (.cells fc.toArray 52)
  clear hL hfc hq
  go_enter Tryz.func15, Tryz.ntmps15
  go_upto_region 2 with fail
  rw [← hg]
  clear hg hmk
  generalize w.alloc (.cells fc.toArray 52) = W1 at *
  go_wp2_with fail
  go_loopw [6] (fun v6 wr => ∃ k : Nat, k ≤ n ∧ v6 = .int .i64 k ∧ In w.heap.size w wr ∧ VBx wr g (pv (mEl qs) n k)) (fun v6 _ => n - (RowKit.intOf v6).toNat)
  case atStart => exact ⟨0, Nat.zero_le _, rfl, hin, bv⟩
  case round =>
    clear hin bv
    obtain ⟨k, hk, rfl, hin, bv⟩ := hrel
    by_cases hkn : k < n
    · have hkI : (k : Int) < n := by omega
      by_cases hkl : k < L
      · have hkJ : (k : Int) < L := by omega
        have hk0 : (0 : Int) ≤ k := by omega
        obtain ⟨N, hN⟩ : ∃ N, N = (qs.getD k (0, 0)).1 := ⟨_, rfl⟩
        obtain ⟨D, hD⟩ : ∃ D, D = (qs.getD k (0, 0)).2 := ⟨_, rfl⟩
        have hb4 : -9223372036854775808 ≤ N ∧ N < 9223372036854775808 ∧ 0 ≤ D ∧ D < 4294967296 := by
          rw [hN, hD, List.getD_eq_getElem?_getD, List.getElem?_eq_getElem (by rw [← HL.out]; exact hkl)]
          exact hok _ (List.getElem_mem _)
        have hmE : mEl qs k = qOf N D := by rw [hN, hD]; rfl
        have hcq := qOf_any N D hb4.1 hb4.2.1 hb4.2.2.1 hb4.2.2.2
        rw [← hmE] at hcq
        obtain ⟨q, hqq⟩ : ∃ q, q = mEl qs k := ⟨_, rfl⟩
        rw [← hqq] at hcq
        have HE := Lib.hid hqq
        obtain ⟨b, off, rfl, hb, hc0, hc1⟩ := HQ.out k (by rw [← HL.out]; exact hkl)
        rw [← hN, Nat.mul_comm 2 k] at hc0
        rw [← hD, Nat.mul_comm 2 k] at hc1
        rw [← hin.cell b _ hb] at hc0 hc1
        have hbw : b < wr.heap.size := by have := hin.siz; omega
        clear hN hD hb4 hmE hqq
        go_wp2_with fail
        ((with_reducible refine (hcq _).mono ?_))
        rintro e w3 ⟨rfl, hb⟩
        have hin3 := hin.call hb
        have bv3 := bv.call hb
        have hlt : k < (pv (mEl qs) n k).length := by rw [pv_length]; exact hkn
        obtain ⟨_, _, _, _, _, _, c0, c1, c2, c3, c4, f0, f1, f2, f3, f4⟩ := VBx.cells bv3 hlt
        have hgl := bv3.lt
        have hs := VBx.set bv3 k q hlt
        rw [show (pv (mEl qs) n k).set k q = pv (mEl qs) n (k + 1) by rw [HE.out]; exact pv_set _ _ _] at hs
        have H1 := Lib.hid hs
        have H2 := Lib.hid (hin3.put5 (g := g) (by have := HG.out; omega) k q)
        have hkw : IntKind.i64.wrap ((k : Int) + 1) = ((k + 1 : Nat) : Int) := IntWalk.i64_in _ (by omega)
        clear hs hin3 bv3 hin bv hb hcq hc0 hc1 hbw
        go_wp2_with fail
        exact ⟨⟨k + 1, by omega, by go_num, H2.out, H1.out⟩, by simp [RowKit.intOf]; omega⟩
      · have hkJ : ¬ (k : Int) < L := by omega
        rw [pv_stop qs n k (by rw [← HL.out]; omega)] at bv
        have hv : VecAt wr (.slice (some ⟨g, 0, none⟩) n n) (mList qs n) := VBx.at bv n (mList_length qs n).symm n
        have H1 := Lib.hid hv
        have H2 := Lib.hid hin
        clear bv hin hv
        go_wp2_with fail
        exact bodyPost_ret (v := .slice (some ⟨g, 0, none⟩) n n) (by simp [results, Tryz.results15, go_sem]) rfl ⟨⟨_, rfl, H1.out⟩, H2.out.bel⟩
    · obtain rfl : k = n := by omega
      have hkI : ¬ (k : Int) < k := by omega
      rw [pv_full] at bv
      have hv : VecAt wr (.slice (some ⟨g, 0, none⟩) k k) (mList qs k) := VBx.at bv k (mList_length qs k).symm k
      have H1 := Lib.hid hv
      have H2 := Lib.hid hin
      clear bv hin hv
      go_wp2_with fail
      exact bodyPost_ret (v := .slice (some ⟨g, 0, none⟩) k k) (by simp [results, Tryz.results15, go_sem]) rfl ⟨⟨_, rfl, H1.out⟩, H2.out.bel⟩
end Gus
end
section
/- Pieces for gussetlaw16.SparsesDense. -/
namespace Gus
open Go Go.RowKit Go.Proofs
/-- a store into a sparse matrix's own variable leaves the rows of every matrix -/
theorem SpN.apart {w : World} {lo S : Nat} {v u : Value} {r c : Nat} {f : Nat → Nat → Rat} {cs : List Value} (h : SpN w lo v r c f) (hS : Bx w S 30 cs) (j : Nat) : SpN (w.setCell ⟨S, j, none⟩ u) lo v r c f := by
  obtain ⟨R, vs, rfl, h1, h2, h3⟩ := h
  have hRS : R ≠ S := fun e => by
    subst e
    have h4 : w.heap[R]? = some (.cells vs.toArray 79 (0, 0)) := h2
    have h5 : w.heap[R]? = some (.cells cs.toArray 30 (0, 0)) := hS
    rw [h4] at h5
    injection h5 with h6
    injection h6 with _ h7
    exact absurd h7 (by decide)
  refine ⟨R, vs, rfl, h1, h2.other (a := ⟨S, j, none⟩) (by simp; omega) u, h3.of_block fun i k hi hk => heap_setCell_other w ⟨S, j, none⟩ k u ?_⟩
  show k ≠ S
  rintro rfl
  rcases h3.row i hi with ⟨h4, _⟩ | ⟨g, cap, cur, h4, _, h5, _⟩
  · rw [h4] at hk; simp [Value.ownBlock] at hk
  · rw [h4] at hk
    simp [Value.ownBlock] at hk
    subst hk
    have h6 : w.heap[g]? = some (.cells cs.toArray 30 (0, 0)) := hS
    rw [h6] at h5
    injection h5 with h7
    injection h7 with _ h8
    exact absurd h8 (by decide)
end Gus
end
