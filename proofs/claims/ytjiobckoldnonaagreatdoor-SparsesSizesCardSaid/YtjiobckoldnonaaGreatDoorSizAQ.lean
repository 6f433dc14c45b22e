/- Proved here: parts of the proof: SizA SizB SizC SizD SizE SizF. Conditions: those that each theorem states. -/
import Derived.Test.YtjiobckoldnonaaGreatDoorSameQ
import Derived.WalkMore
section
/- gussetlaw16.SparsesSizes. -/
namespace Gus
open Go Go.RowKit Go.Proofs
theorem items_one : ∀ (rows : List (List Ent)) (i0 : Nat), (∀ es ∈ rows, es.length = 1) → (itemsF i0 rows).length = rows.length
  | [], _, _ => rfl
  | es :: rows, i0, h => by
    unfold itemsF
    rw [List.length_append, List.length_map, h es (.head _), items_one rows (i0 + 1) (fun e he => h e (List.mem_cons_of_mem _ he)), List.length_cons]; omega
theorem rowOf_dg {n i : Nat} (hi : i < n) : rowOf (dg n i) n = [(i, 1)] := by
  refine asc_ext (rowOf_asc _ _) (List.pairwise_singleton _ _) fun ⟨k, q⟩ => ?_
  rw [mem_rowOf, List.mem_singleton, Prod.mk.injEq]
  unfold dg
  constructor
  · rintro ⟨h1, h2, h3⟩
    by_cases h : i = k ∧ i < n
    · rw [if_pos h] at h3; exact ⟨h.1.symm, h3⟩
    · rw [if_neg h] at h2; exact absurd rfl h2
  · rintro ⟨rfl, rfl⟩
    rw [if_pos ⟨rfl, hi⟩]
    exact ⟨hi, by decide, rfl⟩
theorem count_dg (n : Nat) : (items n n (dg n)).length = n := by
  unfold items
  rw [items_one, mrows_length]
  intro es he
  obtain ⟨i, hi, rfl⟩ := List.mem_map.1 he
  rw [rowOf_dg (List.mem_range.1 hi)]; rfl
theorem symm_dg (n : Nat) : sameM n n (dg n) n n (fun k i => dg n i k) = true :=
  sameM_self fun i k _ _ => by
    unfold dg
    by_cases h : i = k
    · subst h; rfl
    · rw [if_neg (fun e => h e.1), if_neg (fun e => h e.1.symm)]
theorem square_eq (n : Int) : checkM n 0 0 = sidesE n n := by
  unfold checkM sidesE
  by_cases h1 : n < 0
  · simp [h1]
  · by_cases h2 : 2048 < n <;> simp [h1, h2]
set_option maxRecDepth 100000 in
set_option maxHeartbeats 4000000 in
theorem sizes_A (n m i k : Int) (hA : (20 < n ∧ n ≤ 2048) ∨ (20 < m ∧ m ≤ 2048)) (w : World) :
    Calls Tryz.prog 5 #[.int .i64 n, .int .i64 m, .int .i64 i, .int .i64 k] w fun e w' => e = .returned (.bool true) ∧ Below w.heap.size w w' := by
  have h1 := works_any w
  by_cases h : 20 < n ∧ n ≤ 2048
  · obtain ⟨a, b⟩ := h
    clear hA
    go_enter Tryz.func5, Tryz.ntmps5
    go_wp2_with fail
    ((with_reducible refine h1.mono ?_))
    rintro e w2 ⟨rfl, hb⟩
    go_wp2_with fail
    go_ret
    exact ⟨rfl, hb⟩
  · have hm : 20 < m ∧ m ≤ 2048 := by
      rcases hA with h' | h'
      · exact absurd h' h
      · exact h'
    obtain ⟨a, b⟩ := hm
    clear hA
    by_cases h2 : 20 < n
    · have h3 : ¬ n ≤ 2048 := fun h3 => h ⟨h2, h3⟩
      clear h
      go_enter Tryz.func5, Tryz.ntmps5
      go_wp2_with fail
      ((with_reducible refine h1.mono ?_))
      rintro e w2 ⟨rfl, hb⟩
      go_wp2_with fail
      go_ret
      exact ⟨rfl, hb⟩
    · clear h
      go_enter Tryz.func5, Tryz.ntmps5
      go_wp2_with fail
      ((with_reducible refine h1.mono ?_))
      rintro e w2 ⟨rfl, hb⟩
      go_wp2_with fail
      go_ret
      exact ⟨rfl, hb⟩
end Gus
end
section
/- gussetlaw16.SparsesSizes: sizes refused, no identity. -/
namespace Gus
open Go Go.RowKit Go.Proofs
set_option maxRecDepth 100000 in
set_option maxHeartbeats 40000000 in
theorem sizes_B1 (n m i k : Int) (hA : ¬ ((20 < n ∧ n ≤ 2048) ∨ (20 < m ∧ m ≤ 2048))) (hs : sidesE n m ≠ 0) (hsq : ¬ sidesE n n = 0) (w : World) :
    Calls Tryz.prog 5 #[.int .i64 n, .int .i64 m, .int .i64 i, .int .i64 k] w fun e w' => e = .returned (.bool true) ∧ Below w.heap.size w w' := by
  have c1 := fun W => mcheck_any n m none 0 0 W
  have e1 : checkM n m 0 = sidesE n m := by unfold checkM; rw [if_neg hs]
  rw [e1] at c1
  have c2 := fun W => new_bad n m hs W
  have c3 := of_bad n m hs
  have hpos : 0 < n → 0 < m → sidesE n m = 3 := fun h1 h2 => by
    unfold sidesE at hs ⊢
    rw [if_neg (by omega)] at hs ⊢
    by_cases h3 : 2048 < n ∨ 2048 < m
    · rw [if_pos h3]
    · rw [if_neg h3] at hs; exact absurd rfl hs
  obtain ⟨s, hse⟩ : ∃ s, s = sidesE n m := ⟨_, rfl⟩
  rw [← hse] at c1 c2 c3 hs hpos
  have HP := Lib.hid hpos
  have c5 := fun W => mcheck_any n 0 none 0 0 W
  rw [square_eq] at c5
  have hb1 : (s == 0) = false := by simpa using hs
  have hb2 : (s != 0) = true := by simpa using hs
  have c6 := works_any
  have c7 := fracInt_any 1 (by decide) (by decide)
  obtain ⟨q, hq⟩ : ∃ q : Rat, q = ((1 : Int) : Rat) := ⟨_, rfl⟩
  rw [← hq] at c7
  clear hq
  have c8 := bsparse_nil
  have c9 := fun W => badd_nil i k q W
  have c10 : ∀ W, Calls Tryz.prog 17 #[.pointer none, .int .i64 i, .int .i64 k] W fun e w' => e = .returned (.agg #[.int .u64 0, .string ⟨#[]⟩, .bool false, .int .u64 0, .string ⟨#[]⟩]) ∧ Below W.heap.size W w' := fun W => bat_nil i k W
  have heq : ∀ W, (binOp .eql 56 (.agg #[.int .u64 0, .string ⟨#[]⟩, .bool false, .int .u64 0, .string ⟨#[]⟩]) (.agg #[.int .u64 0, .string ⟨#[]⟩, .bool false, .int .u64 0, .string ⟨#[]⟩])).run Tryz.prog W = .ok (.bool true) W := fun W => fracEq_run 0 0 W
  clear e1 hpos hse
  obtain ⟨X, hX⟩ : ∃ X, X = w.heap.size := ⟨_, rfl⟩
  go_enter Tryz.func5, Tryz.ntmps5
  go_upto_region 1 with fail
  go_cut [33] from 20 to 33 (fun v33 wx => v33 = .bool false ∧ w = wx)
  case first =>
    by_cases h1 : 20 < n
    · have h2 : ¬ n ≤ 2048 := fun h2 => hA (.inl ⟨h1, h2⟩)
      by_cases h3 : 20 < m
      · have h4 : ¬ m ≤ 2048 := fun h4 => hA (.inr ⟨h3, h4⟩)
        clear hA
        go_wp2_with fail
        go_meet
        exact ⟨rfl, rfl⟩
      · clear hA
        go_wp2_with fail
        go_meet
        exact ⟨rfl, rfl⟩
    · by_cases h3 : 20 < m
      · have h4 : ¬ m ≤ 2048 := fun h4 => hA (.inr ⟨h3, h4⟩)
        clear hA
        go_wp2_with fail
        go_meet
        exact ⟨rfl, rfl⟩
      · clear hA
        go_wp2_with fail
        go_meet
        exact ⟨rfl, rfl⟩
  case rest =>
    obtain ⟨rfl, rfl⟩ := hcut
    go_wp2_with fail
    ((with_reducible refine (c1 _).mono ?_))
    rintro e w1 ⟨rfl, hbel⟩
    have hin : In X w w1 := by rw [hX]; exact (In.self w).call hbel
    have HX := Lib.hid hX
    clear hbel hX c1
    go_upto_region 4 with fail
    go_cut [48] from 39 to 48 (fun v48 wx => v48 = .bool false ∧ w1 = wx)
    case first =>
      by_cases h1 : 0 < n
      · by_cases h2 : 0 < m
        · have h3 := HP.out h1 h2
          subst h3
          go_wp2_with fail
          go_meet
          exact ⟨rfl, rfl⟩
        · go_wp2_with fail
          go_meet
          exact ⟨rfl, rfl⟩
      · go_wp2_with fail
        go_meet
        exact ⟨rfl, rfl⟩
    case rest =>
      obtain ⟨rfl, rfl⟩ := hcut
      go_wp2_with fail
      ((with_reducible refine (c2 _).mono ?_))
      rintro e w2 ⟨rfl, hbel⟩
      replace hin := hin.call hbel
      clear hbel c2
      go_wp2_with fail
      ((with_reducible refine (c3 _ _).mono ?_))
      rintro e w3 ⟨rfl, hbel⟩
      replace hin := (hin.alloc _).call hbel
      clear hbel c3
      have c4 := one_bad n hsq
      obtain ⟨t, ht⟩ : ∃ t, t = sidesE n n := ⟨_, rfl⟩
      rw [← ht] at c4 c5 hsq
      have hb3 : (t == 0) = false := by simpa using hsq
      clear ht hsq hs
      go_wp2_with fail
      obtain ⟨Y, hY⟩ : ∃ Y, Y = w3.heap.size := ⟨_, rfl⟩
      have bY := Bx.new_at w3 #[.int .i64 0, .int .i64 0, .slice none 0 0] 63 hY
      replace hin := hin.alloc (.cells #[.int .i64 0, .int .i64 0, .slice none 0 0] 63)
      rw [← hY]
      clear hY
      ((with_reducible refine (c4 _).mono ?_))
      rintro e w4 ⟨rfl, hbel⟩
      replace hin := hin.call hbel
      replace bY := bY.call hbel
      clear hbel c4
      go_wp2_with fail
      replace hin := hin.alloc (.cells #[.int .i64 0, .int .i64 0, .slice none 0 0] 63)
      replace bY := bY.alloc (.cells #[.int .i64 0, .int .i64 0, .slice none 0 0] 63)
      ((with_reducible refine (c5 _).mono ?_))
      rintro e w5 ⟨rfl, hbel⟩
      replace hin := hin.call hbel
      replace bY := bY.call hbel
      clear hbel c5
      have y0 := bY.c0
      have y1 := bY.c1
      have y2 := bY.c2
      have hYl := bY.lt
      clear bY
      (go_upto_region 13 with fail; go_step; simp only [List.append_eq, List.cons_append, List.nil_append])
      ((go_wp2_with fail); (((with_reducible refine (c8 _).mono ?_))); (rintro e w7 ⟨rfl, hbel⟩); (replace hin := hin.call hbel); (have bz := Bx.new w7 #[.int .i64 0, .int .i64 0, .slice none 0 0] 63); (replace hin := hin.alloc (.cells #[.int .i64 0, .int .i64 0, .slice none 0 0] 63)); (clear hbel c8); (go_wp2_with fail); (((with_reducible refine (c7 _).mono ?_))); (rintro e w8 ⟨rfl, hbel⟩); (replace hin := hin.call hbel); (replace bz := bz.call hbel); (clear hbel c7); (go_wp2_with fail); (((with_reducible refine (c9 _).mono ?_))); (rintro e w9 ⟨rfl, hbel⟩); (replace hin := hin.call hbel); (replace bz := bz.call hbel); (clear hbel c9); (go_wp2_with fail); (((with_reducible refine (c10 _).mono ?_))); (rintro e w10 ⟨rfl, hbel⟩); (replace hin := hin.call hbel); (replace bz := bz.call hbel); (clear hbel c10); (have z0 := bz.c0); (have z1 := bz.c1); (have z2 := bz.c2); (have hzl := bz.lt); (clear bz); (go_wp2_with fail); (((with_reducible refine (c6 _).mono ?_))); (rintro e w11 ⟨rfl, hbel⟩); (replace hin := hin.call hbel); (clear hbel c6 z0 z1 z2 hzl); (go_wp2_with fail); (go_ret); (exact ⟨rfl, by rw [← HX.out]; exact hin.bel⟩))
end Gus
end
section
/- gussetlaw16.SparsesSizes: sizes refused, an identity. -/
namespace Gus
open Go Go.RowKit Go.Proofs
set_option maxRecDepth 100000 in
set_option maxHeartbeats 40000000 in
theorem sizes_B2 (n m i k : Int) (hA : ¬ ((20 < n ∧ n ≤ 2048) ∨ (20 < m ∧ m ≤ 2048))) (hs : sidesE n m ≠ 0) (hsq : sidesE n n = 0) (w : World) :
    Calls Tryz.prog 5 #[.int .i64 n, .int .i64 m, .int .i64 i, .int .i64 k] w fun e w' => e = .returned (.bool true) ∧ Below w.heap.size w w' := by
  have c1 := fun W => mcheck_any n m none 0 0 W
  have e1 : checkM n m 0 = sidesE n m := by unfold checkM; rw [if_neg hs]
  rw [e1] at c1
  have c2 := fun W => new_bad n m hs W
  have c3 := of_bad n m hs
  have hpos : 0 < n → 0 < m → sidesE n m = 3 := fun h1 h2 => by
    unfold sidesE at hs ⊢
    rw [if_neg (by omega)] at hs ⊢
    by_cases h3 : 2048 < n ∨ 2048 < m
    · rw [if_pos h3]
    · rw [if_neg h3] at hs; exact absurd rfl hs
  obtain ⟨s, hse⟩ : ∃ s, s = sidesE n m := ⟨_, rfl⟩
  rw [← hse] at c1 c2 c3 hs hpos
  have HP := Lib.hid hpos
  have c5 := fun W => mcheck_any n 0 none 0 0 W
  rw [square_eq] at c5
  have hb1 : (s == 0) = false := by simpa using hs
  have hb2 : (s != 0) = true := by simpa using hs
  have c6 := works_any
  have c7 := fracInt_any 1 (by decide) (by decide)
  obtain ⟨q, hq⟩ : ∃ q : Rat, q = ((1 : Int) : Rat) := ⟨_, rfl⟩
  rw [← hq] at c7
  clear hq
  have c8 := bsparse_nil
  have c9 := fun W => badd_nil i k q W
  have c10 : ∀ W, Calls Tryz.prog 17 #[.pointer none, .int .i64 i, .int .i64 k] W fun e w' => e = .returned (.agg #[.int .u64 0, .string ⟨#[]⟩, .bool false, .int .u64 0, .string ⟨#[]⟩]) ∧ Below W.heap.size W w' := fun W => bat_nil i k W
  have heq : ∀ W, (binOp .eql 56 (.agg #[.int .u64 0, .string ⟨#[]⟩, .bool false, .int .u64 0, .string ⟨#[]⟩]) (.agg #[.int .u64 0, .string ⟨#[]⟩, .bool false, .int .u64 0, .string ⟨#[]⟩])).run Tryz.prog W = .ok (.bool true) W := fun W => fracEq_run 0 0 W
  clear e1 hpos hse
  obtain ⟨X, hX⟩ : ∃ X, X = w.heap.size := ⟨_, rfl⟩
  go_enter Tryz.func5, Tryz.ntmps5
  go_upto_region 1 with fail
  go_cut [33] from 20 to 33 (fun v33 wx => v33 = .bool false ∧ w = wx)
  case first =>
    by_cases h1 : 20 < n
    · have h2 : ¬ n ≤ 2048 := fun h2 => hA (.inl ⟨h1, h2⟩)
      by_cases h3 : 20 < m
      · have h4 : ¬ m ≤ 2048 := fun h4 => hA (.inr ⟨h3, h4⟩)
        clear hA
        go_wp2_with fail
        go_meet
        exact ⟨rfl, rfl⟩
      · clear hA
        go_wp2_with fail
        go_meet
        exact ⟨rfl, rfl⟩
    · by_cases h3 : 20 < m
      · have h4 : ¬ m ≤ 2048 := fun h4 => hA (.inr ⟨h3, h4⟩)
        clear hA
        go_wp2_with fail
        go_meet
        exact ⟨rfl, rfl⟩
      · clear hA
        go_wp2_with fail
        go_meet
        exact ⟨rfl, rfl⟩
  case rest =>
    obtain ⟨rfl, rfl⟩ := hcut
    go_wp2_with fail
    ((with_reducible refine (c1 _).mono ?_))
    rintro e w1 ⟨rfl, hbel⟩
    have hin : In X w w1 := by rw [hX]; exact (In.self w).call hbel
    have HX := Lib.hid hX
    clear hbel hX c1
    go_upto_region 4 with fail
    go_cut [48] from 39 to 48 (fun v48 wx => v48 = .bool false ∧ w1 = wx)
    case first =>
      by_cases h1 : 0 < n
      · by_cases h2 : 0 < m
        · have h3 := HP.out h1 h2
          subst h3
          go_wp2_with fail
          go_meet
          exact ⟨rfl, rfl⟩
        · go_wp2_with fail
          go_meet
          exact ⟨rfl, rfl⟩
      · go_wp2_with fail
        go_meet
        exact ⟨rfl, rfl⟩
    case rest =>
      obtain ⟨rfl, rfl⟩ := hcut
      go_wp2_with fail
      ((with_reducible refine (c2 _).mono ?_))
      rintro e w2 ⟨rfl, hbel⟩
      replace hin := hin.call hbel
      clear hbel c2
      go_wp2_with fail
      ((with_reducible refine (c3 _ _).mono ?_))
      rintro e w3 ⟨rfl, hbel⟩
      replace hin := (hin.alloc _).call hbel
      clear hbel c3
      obtain ⟨N, rfl⟩ : ∃ N : Nat, n = N := by
        have := sidesE_zero hsq
        exact ⟨n.toNat, by omega⟩
      have hN : N ≤ 2048 := by have := sidesE_zero hsq; omega
      have c4 := one_ok N hN
      rw [hsq] at c5
      clear hs hsq
      go_wp2_with fail
      obtain ⟨Y, hY⟩ : ∃ Y, Y = w3.heap.size := ⟨_, rfl⟩
      have bY := Bx.new_at w3 #[.int .i64 0, .int .i64 0, .slice none 0 0] 63 hY
      replace hin := hin.alloc (.cells #[.int .i64 0, .int .i64 0, .slice none 0 0] 63)
      rw [← hY]
      clear hY
      ((with_reducible refine (c4 _).mono ?_))
      rintro e w4 ⟨v, rfl, hv, hbel⟩
      replace hin := hin.call hbel
      replace bY := bY.call hbel
      have hm := hv.m
      obtain ⟨va, vc, rfl⟩ := hm.shape
      have c11 := fun W (hb : Below w4.heap.size w4 W) => count_ok W _ N N (dg N) (hm.call hb) hN hN
      have c12 := fun W (hb : Below w4.heap.size w4 W) => symm_any (j := 1) W _ N N (dg N) (hm.call hb) hN hN (dg_size N) (by have := Nat.mul_le_mul hN hN; omega)
      simp only [count_dg, symm_dg] at c11 c12
      clear hbel c4 hv hm
      go_wp2_with fail
      obtain ⟨Z, hZ⟩ : ∃ Z, Z = w4.heap.size := ⟨_, rfl⟩
      have bZ := Bx.new_at w4 #[.int .i64 N, .int .i64 N, .slice va N vc] 63 hZ
      replace hin := hin.alloc (.cells #[.int .i64 N, .int .i64 N, .slice va N vc] 63)
      replace bY := bY.alloc (.cells #[.int .i64 N, .int .i64 N, .slice va N vc] 63)
      have h4 := (In.self w4).alloc (.cells #[.int .i64 N, .int .i64 N, .slice va N vc] 63)
      rw [← hZ]
      clear hZ
      ((with_reducible refine (c5 _).mono ?_))
      rintro e w5 ⟨rfl, hbel⟩
      replace hin := hin.call hbel
      replace bY := bY.call hbel
      replace bZ := bZ.call hbel
      replace h4 := h4.call hbel
      clear hbel c5
      have y0 := bY.c0
      have y1 := bY.c1
      have y2 := bY.c2
      have hYl := bY.lt
      have z0 := bZ.c0
      have z1 := bZ.c1
      have z2 := bZ.c2
      have hZl := bZ.lt
      (go_upto_region 13 with fail; go_step; simp only [List.append_eq, List.cons_append, List.nil_append])
      go_wp2_with fail
      ((with_reducible refine (c11 _ h4.bel).mono ?_))
      rintro e w6 ⟨rfl, hbel⟩
      replace hin := hin.call hbel
      replace h4 := h4.call hbel
      clear y0 y1 y2 hYl z0 z1 z2 hZl
      replace bZ := bZ.call hbel
      have z0 := bZ.c0
      have z1 := bZ.c1
      have z2 := bZ.c2
      have hZl := bZ.lt
      clear hbel c11 bY
      go_wp2_with fail
      ((with_reducible refine (c12 _ h4.bel).mono ?_))
      rintro e w6 ⟨rfl, hbel⟩
      replace hin := hin.call hbel
      clear hbel c12 z0 z1 z2 hZl bZ h4
      ((go_wp2_with fail); (((with_reducible refine (c8 _).mono ?_))); (rintro e w7 ⟨rfl, hbel⟩); (replace hin := hin.call hbel); (have bz := Bx.new w7 #[.int .i64 0, .int .i64 0, .slice none 0 0] 63); (replace hin := hin.alloc (.cells #[.int .i64 0, .int .i64 0, .slice none 0 0] 63)); (clear hbel c8); (go_wp2_with fail); (((with_reducible refine (c7 _).mono ?_))); (rintro e w8 ⟨rfl, hbel⟩); (replace hin := hin.call hbel); (replace bz := bz.call hbel); (clear hbel c7); (go_wp2_with fail); (((with_reducible refine (c9 _).mono ?_))); (rintro e w9 ⟨rfl, hbel⟩); (replace hin := hin.call hbel); (replace bz := bz.call hbel); (clear hbel c9); (go_wp2_with fail); (((with_reducible refine (c10 _).mono ?_))); (rintro e w10 ⟨rfl, hbel⟩); (replace hin := hin.call hbel); (replace bz := bz.call hbel); (clear hbel c10); (have z0 := bz.c0); (have z1 := bz.c1); (have z2 := bz.c2); (have hzl := bz.lt); (clear bz); (go_wp2_with fail); (((with_reducible refine (c6 _).mono ?_))); (rintro e w11 ⟨rfl, hbel⟩); (replace hin := hin.call hbel); (clear hbel c6 z0 z1 z2 hzl); (go_wp2_with fail); (go_ret); (exact ⟨rfl, by rw [← HX.out]; exact hin.bel⟩))
end Gus
end
section
/- gussetlaw16.SparsesSizes: sizes that are taken. -/
namespace Gus
open Go Go.RowKit Go.Proofs
theorem items_zero (r c : Nat) : items r c (fun _ _ => 0) = [] := by
  rw [List.eq_nil_iff_forall_not_mem]
  rintro ⟨i, k, q⟩ h
  exact (mem_items.1 h).2.2.1 rfl
set_option maxRecDepth 100000 in
set_option maxHeartbeats 40000000 in
theorem sizes_in (N M : Nat) (i k : Int) (hN : N ≤ 20) (hM : M ≤ 20) (hN0 : 0 < N) (hM0 : 0 < M) (hi : 0 ≤ i ∧ i < N ∧ 0 ≤ k ∧ k < M) (w : World) :
    Calls Tryz.prog 5 #[.int .i64 N, .int .i64 M, .int .i64 i, .int .i64 k] w fun e w' => e = .returned (.bool true) ∧ Below w.heap.size w w' := by
  have c1 := fun W => mcheck_any N M none 0 0 W
  have e1 : checkM N M 0 = 1 := by
    unfold checkM
    rw [if_pos (by unfold sidesE; rw [if_neg (by omega), if_neg (by omega)]), if_neg]
    intro h
    have h1 : 0 < (N : Int) * M := Int.mul_pos (by omega) (by omega)
    omega
  have hn0 : (0 : Int) < N := by omega
  have hm0 : (0 : Int) < M := by omega
  rw [e1] at c1
  have c2 := new_ok N M (by omega) (by omega)
  have c3 := fun W l (hI : ItsAt W (some ⟨l, 0, none⟩) [(i, k, 0)]) => of_ok (j := 1) W N M (some ⟨l, 0, none⟩) 1 [(i, k, 0)] hI (by omega) (by omega) (by simp) (fun x => by
    cases x with
    | zero => exact SzK.zero
    | succ x => simp; exact SzK.zero) (by simp)
  simp only [List.length_singleton] at c3
  have c4 := one_ok N (by omega)
  have c5 := fun W => mcheck_any N 0 none 0 0 W
  rw [square_eq, show sidesE (N : Int) N = 0 by unfold sidesE; rw [if_neg (by omega), if_neg (by omega)]] at c5
  have c6 := works_any
  have c7 := fracInt_any 1 (by decide) (by decide)
  obtain ⟨q, hq⟩ : ∃ q : Rat, q = ((1 : Int) : Rat) := ⟨_, rfl⟩
  rw [← hq] at c7
  clear hq
  have c8 := bsparse_nil
  have c9 := fun W => badd_nil i k q W
  have c10 : ∀ W, Calls Tryz.prog 17 #[.pointer none, .int .i64 i, .int .i64 k] W fun e w' => e = .returned (.agg #[.int .u64 0, .string ⟨#[]⟩, .bool false, .int .u64 0, .string ⟨#[]⟩]) ∧ Below W.heap.size W w' := fun W => bat_nil i k W
  have heq : ∀ W, (binOp .eql 56 (.agg #[.int .u64 0, .string ⟨#[]⟩, .bool false, .int .u64 0, .string ⟨#[]⟩]) (.agg #[.int .u64 0, .string ⟨#[]⟩, .bool false, .int .u64 0, .string ⟨#[]⟩])).run Tryz.prog W = .ok (.bool true) W := fun W => fracEq_run 0 0 W
  have hn20 : ¬ (20 : Int) < N := by omega
  have hm20 : ¬ (20 : Int) < M := by omega
  obtain ⟨a1, a2, a3, a4⟩ := hi
  have hin1 : ([(i, k, (0 : Rat))] : List Itm).all (okI N M) = true := by unfold okI; simp; omega
  have hI1 := Lib.hid hin1
  have b1 : ¬ i < 0 := by omega
  have b2 : ¬ (N : Int) ≤ i := by omega
  have b3 : ¬ k < 0 := by omega
  have b4 : ¬ (M : Int) ≤ k := by omega
  clear hin1
  clear e1
  obtain ⟨X, hX⟩ : ∃ X, X = w.heap.size := ⟨_, rfl⟩
  have hu : undef = Value.tuple #[] := rfl
  go_enter Tryz.func5, Tryz.ntmps5
  go_wp2_with fail
  ((with_reducible refine (c1 _).mono ?_))
  rintro e w1 ⟨rfl, hbel⟩
  have hin : In X w w1 := by rw [hX]; exact (In.self w).call hbel
  have HX := Lib.hid hX
  clear hbel hX c1
  go_wp2_with fail
  ((with_reducible refine (c2 _).mono ?_))
  rintro e w2 ⟨b, rfl, _, _, hbel⟩
  replace hin := hin.call hbel
  clear hbel c2
  go_wp2_with fail
  obtain ⟨l, hl⟩ : ∃ l, l = w2.heap.size := ⟨_, rfl⟩
  have bl := Bx.new_at w2 #[.int .i64 i, .int .i64 k, .int .u64 0, .string ⟨#[]⟩, .bool false, .int .u64 0, .string ⟨#[]⟩] 60 hl
  replace hin := hin.alloc (.cells #[.int .i64 i, .int .i64 k, .int .u64 0, .string ⟨#[]⟩, .bool false, .int .u64 0, .string ⟨#[]⟩] 60)
  rw [← hl]
  clear hl
  ((with_reducible refine (c3 _ l ?_).mono ?_))
  · intro x hx
    have h0 : x = 0 := by simpa using hx
    subst h0
    refine ⟨l, 0, rfl, bl.lt, fun y hy => ?_⟩
    rw [bl.cell]
    have h7 : y = 0 ∨ y = 1 ∨ y = 2 ∨ y = 3 ∨ y = 4 ∨ y = 5 ∨ y = 6 := by omega
    rcases h7 with rfl | rfl | rfl | rfl | rfl | rfl | rfl <;> rfl
  rintro e w3 ⟨hof, hbel⟩
  rcases hof with ⟨_, sv, rfl, hsv⟩ | ⟨hof, _⟩
  rotate_left 1
  · rw [hI1.out] at hof; cases hof
  have hsm := hsv.m
  have hz : ∀ x y, x < N → y < M → foldA (fun _ _ => 0) ([(i, k, (0 : Rat))].map toN) x y = 0 := fun x y _ _ => by
    rw [foldA_at]
    simp only [List.map_cons, List.map_nil, sumAt, toN]
    split <;> decide +kernel
  have hsm2 : SpM w3 sv N M (fun _ _ => 0) := (hsv.congr hz).m
  obtain ⟨sa, sc, rfl⟩ := hsm2.shape
  have c13 : ∀ W, Below w3.heap.size w3 W → Calls Tryz.prog 32 #[.agg #[.int .i64 N, .int .i64 M, .slice sa N sc]] W fun e w' => e = .returned (.int .i64 0) ∧ Below W.heap.size W w' := fun W hb => by
    have := count_ok W _ N M (fun _ _ => 0) (hsm2.call hb) (by omega) (by omega)
    rw [items_zero] at this
    exact this
  have h3 := In.self w3
  replace hin := hin.call hbel
  clear hbel c3 bl hsv hsm hz hsm2
  go_wp2_with fail
  obtain ⟨Y, hY⟩ : ∃ Y, Y = w3.heap.size := ⟨_, rfl⟩
  have bY := Bx.new_at w3 #[.int .i64 N, .int .i64 M, .slice sa N sc] 63 hY
  replace hin := hin.alloc (.cells #[.int .i64 N, .int .i64 M, .slice sa N sc] 63)
  replace h3 := h3.alloc (.cells #[.int .i64 N, .int .i64 M, .slice sa N sc] 63)
  rw [← hY]
  clear hY
  ((with_reducible refine (c4 _).mono ?_))
  rintro e w4 ⟨v, rfl, hv, hbel⟩
  replace hin := hin.call hbel
  replace bY := bY.call hbel
  replace h3 := h3.call hbel
  have hm := hv.m
  obtain ⟨va, vc, rfl⟩ := hm.shape
  have c11 := fun W (hb : Below w4.heap.size w4 W) => count_ok W _ N N (dg N) (hm.call hb) (by omega) (by omega)
  have c12 := fun W (hb : Below w4.heap.size w4 W) => symm_any (j := 1) W _ N N (dg N) (hm.call hb) (by omega) (by omega) (dg_size N) (by have := Nat.mul_le_mul hN hN; omega)
  simp only [count_dg, symm_dg] at c11 c12
  clear hbel c4 hv hm
  go_wp2_with fail
  obtain ⟨Z, hZ⟩ : ∃ Z, Z = w4.heap.size := ⟨_, rfl⟩
  have bZ := Bx.new_at w4 #[.int .i64 N, .int .i64 N, .slice va N vc] 63 hZ
  replace hin := hin.alloc (.cells #[.int .i64 N, .int .i64 N, .slice va N vc] 63)
  replace bY := bY.alloc (.cells #[.int .i64 N, .int .i64 N, .slice va N vc] 63)
  replace h3 := h3.alloc (.cells #[.int .i64 N, .int .i64 N, .slice va N vc] 63)
  have h4 := (In.self w4).alloc (.cells #[.int .i64 N, .int .i64 N, .slice va N vc] 63)
  rw [← hZ]
  clear hZ
  ((with_reducible refine (c5 _).mono ?_))
  rintro e w5 ⟨rfl, hbel⟩
  replace hin := hin.call hbel
  replace bY := bY.call hbel
  replace bZ := bZ.call hbel
  replace h3 := h3.call hbel
  replace h4 := h4.call hbel
  clear hbel c5
  have y0 := bY.c0
  have y1 := bY.c1
  have y2 := bY.c2
  have hYl := bY.lt
  have z0 := bZ.c0
  have z1 := bZ.c1
  have z2 := bZ.c2
  have hZl := bZ.lt
  go_wp2_with fail
  ((with_reducible refine (c13 _ h3.bel).mono ?_))
  rintro e w6 ⟨rfl, hbel⟩
  replace hin := hin.call hbel
  replace h4 := h4.call hbel
  clear y0 y1 y2 hYl z0 z1 z2 hZl h3
  replace bZ := bZ.call hbel
  have z0 := bZ.c0
  have z1 := bZ.c1
  have z2 := bZ.c2
  have hZl := bZ.lt
  clear hbel c13 bY
  go_wp2_with fail
  ((with_reducible refine (c11 _ h4.bel).mono ?_))
  rintro e w6 ⟨rfl, hbel⟩
  replace hin := hin.call hbel
  replace h4 := h4.call hbel
  clear z0 z1 z2 hZl
  replace bZ := bZ.call hbel
  have z0 := bZ.c0
  have z1 := bZ.c1
  have z2 := bZ.c2
  have hZl := bZ.lt
  clear hbel c11
  go_wp2_with fail
  ((with_reducible refine (c12 _ h4.bel).mono ?_))
  rintro e w6 ⟨rfl, hbel⟩
  replace hin := hin.call hbel
  clear hbel c12 z0 z1 z2 hZl bZ h4
  ((go_wp2_with fail); (((with_reducible refine (c8 _).mono ?_))); (rintro e w7 ⟨rfl, hbel⟩); (replace hin := hin.call hbel); (have bz := Bx.new w7 #[.int .i64 0, .int .i64 0, .slice none 0 0] 63); (replace hin := hin.alloc (.cells #[.int .i64 0, .int .i64 0, .slice none 0 0] 63)); (clear hbel c8); (go_wp2_with fail); (((with_reducible refine (c7 _).mono ?_))); (rintro e w8 ⟨rfl, hbel⟩); (replace hin := hin.call hbel); (replace bz := bz.call hbel); (clear hbel c7); (go_wp2_with fail); (((with_reducible refine (c9 _).mono ?_))); (rintro e w9 ⟨rfl, hbel⟩); (replace hin := hin.call hbel); (replace bz := bz.call hbel); (clear hbel c9); (go_wp2_with fail); (((with_reducible refine (c10 _).mono ?_))); (rintro e w10 ⟨rfl, hbel⟩); (replace hin := hin.call hbel); (replace bz := bz.call hbel); (clear hbel c10); (have z0 := bz.c0); (have z1 := bz.c1); (have z2 := bz.c2); (have hzl := bz.lt); (clear bz); (go_wp2_with fail); (((with_reducible refine (c6 _).mono ?_))); (rintro e w11 ⟨rfl, hbel⟩); (replace hin := hin.call hbel); (clear hbel c6 z0 z1 z2 hzl); (go_wp2_with fail); (go_ret); (exact ⟨rfl, by rw [← HX.out]; exact hin.bel⟩))
end Gus
end
section
/- gussetlaw16.SparsesSizes: sizes that are taken. -/
namespace Gus
open Go Go.RowKit Go.Proofs
set_option maxRecDepth 100000 in
set_option maxHeartbeats 40000000 in
theorem sizes_out (N M : Nat) (i k : Int) (hN : N ≤ 20) (hM : M ≤ 20) (hN0 : 0 < N) (hM0 : 0 < M) (hi : ¬ (0 ≤ i ∧ i < N ∧ 0 ≤ k ∧ k < M)) (w : World) :
    Calls Tryz.prog 5 #[.int .i64 N, .int .i64 M, .int .i64 i, .int .i64 k] w fun e w' => e = .returned (.bool true) ∧ Below w.heap.size w w' := by
  have c1 := fun W => mcheck_any N M none 0 0 W
  have e1 : checkM N M 0 = 1 := by
    unfold checkM
    rw [if_pos (by unfold sidesE; rw [if_neg (by omega), if_neg (by omega)]), if_neg]
    intro h
    have h1 : 0 < (N : Int) * M := Int.mul_pos (by omega) (by omega)
    omega
  have hn0 : (0 : Int) < N := by omega
  have hm0 : (0 : Int) < M := by omega
  rw [e1] at c1
  have c2 := new_ok N M (by omega) (by omega)
  have c3 := fun W l (hI : ItsAt W (some ⟨l, 0, none⟩) [(i, k, 0)]) => of_ok (j := 1) W N M (some ⟨l, 0, none⟩) 1 [(i, k, 0)] hI (by omega) (by omega) (by simp) (fun x => by
    cases x with
    | zero => exact SzK.zero
    | succ x => simp; exact SzK.zero) (by simp)
  simp only [List.length_singleton] at c3
  have c4 := one_ok N (by omega)
  have c5 := fun W => mcheck_any N 0 none 0 0 W
  rw [square_eq, show sidesE (N : Int) N = 0 by unfold sidesE; rw [if_neg (by omega), if_neg (by omega)]] at c5
  have c6 := works_any
  have c7 := fracInt_any 1 (by decide) (by decide)
  obtain ⟨q, hq⟩ : ∃ q : Rat, q = ((1 : Int) : Rat) := ⟨_, rfl⟩
  rw [← hq] at c7
  clear hq
  have c8 := bsparse_nil
  have c9 := fun W => badd_nil i k q W
  have c10 : ∀ W, Calls Tryz.prog 17 #[.pointer none, .int .i64 i, .int .i64 k] W fun e w' => e = .returned (.agg #[.int .u64 0, .string ⟨#[]⟩, .bool false, .int .u64 0, .string ⟨#[]⟩]) ∧ Below W.heap.size W w' := fun W => bat_nil i k W
  have heq : ∀ W, (binOp .eql 56 (.agg #[.int .u64 0, .string ⟨#[]⟩, .bool false, .int .u64 0, .string ⟨#[]⟩]) (.agg #[.int .u64 0, .string ⟨#[]⟩, .bool false, .int .u64 0, .string ⟨#[]⟩])).run Tryz.prog W = .ok (.bool true) W := fun W => fracEq_run 0 0 W
  have hn20 : ¬ (20 : Int) < N := by omega
  have hm20 : ¬ (20 : Int) < M := by omega
  have hin1 : ([(i, k, (0 : Rat))] : List Itm).all (okI N M) = false := by
    simp only [List.all_cons, List.all_nil, Bool.and_true]
    unfold okI
    simp
    omega
  have hI1 := Lib.hid hin1
  clear hin1
  clear e1
  obtain ⟨X, hX⟩ : ∃ X, X = w.heap.size := ⟨_, rfl⟩
  go_enter Tryz.func5, Tryz.ntmps5
  go_wp2_with fail
  ((with_reducible refine (c1 _).mono ?_))
  rintro e w1 ⟨rfl, hbel⟩
  have hin : In X w w1 := by rw [hX]; exact (In.self w).call hbel
  have HX := Lib.hid hX
  clear hbel hX c1
  go_wp2_with fail
  ((with_reducible refine (c2 _).mono ?_))
  rintro e w2 ⟨b, rfl, _, _, hbel⟩
  replace hin := hin.call hbel
  clear hbel c2
  go_wp2_with fail
  obtain ⟨l, hl⟩ : ∃ l, l = w2.heap.size := ⟨_, rfl⟩
  have bl := Bx.new_at w2 #[.int .i64 i, .int .i64 k, .int .u64 0, .string ⟨#[]⟩, .bool false, .int .u64 0, .string ⟨#[]⟩] 60 hl
  replace hin := hin.alloc (.cells #[.int .i64 i, .int .i64 k, .int .u64 0, .string ⟨#[]⟩, .bool false, .int .u64 0, .string ⟨#[]⟩] 60)
  rw [← hl]
  clear hl
  ((with_reducible refine (c3 _ l ?_).mono ?_))
  · intro x hx
    have h0 : x = 0 := by simpa using hx
    subst h0
    refine ⟨l, 0, rfl, bl.lt, fun y hy => ?_⟩
    rw [bl.cell]
    have h7 : y = 0 ∨ y = 1 ∨ y = 2 ∨ y = 3 ∨ y = 4 ∨ y = 5 ∨ y = 6 := by omega
    rcases h7 with rfl | rfl | rfl | rfl | rfl | rfl | rfl <;> rfl
  rintro e w3 ⟨hof, hbel⟩
  rcases hof with ⟨hof, _⟩ | ⟨_, rfl⟩
  · rw [hI1.out] at hof; cases hof
  replace hin := hin.call hbel
  clear hbel c3 bl
  go_upto_region 9 with fail
  obtain ⟨Y, hY⟩ : ∃ Y, Y = w3.heap.size := ⟨_, rfl⟩
  have bY := Bx.new_at w3 #[.int .i64 0, .int .i64 0, .slice none 0 0] 63 hY
  replace hin := hin.alloc (.cells #[.int .i64 0, .int .i64 0, .slice none 0 0] 63)
  rw [← hY]
  clear hY
  generalize w3.alloc (.cells #[.int .i64 0, .int .i64 0, .slice none 0 0] 63) = W4 at *
  go_cut [85] from 66 to 85 (fun v85 wx => v85 = .bool true ∧ W4 = wx)
  case first =>
    by_cases b1 : i < 0
    · go_wp2_with fail
      go_meet
      exact ⟨rfl, rfl⟩
    · by_cases b2 : (N : Int) ≤ i
      · go_wp2_with fail
        go_meet
        exact ⟨rfl, rfl⟩
      · by_cases b3 : k < 0
        · go_wp2_with fail
          go_meet
          exact ⟨rfl, rfl⟩
        · have b4 : (M : Int) ≤ k := by omega
          go_wp2_with fail
          go_meet
          exact ⟨rfl, rfl⟩
  obtain ⟨rfl, rfl⟩ := hcut
  go_wp2_with fail
  ((with_reducible refine (c4 _).mono ?_))
  rintro e w4 ⟨v, rfl, hv, hbel⟩
  replace hin := hin.call hbel
  replace bY := bY.call hbel
  have hm := hv.m
  obtain ⟨va, vc, rfl⟩ := hm.shape
  have c11 := fun W (hb : Below w4.heap.size w4 W) => count_ok W _ N N (dg N) (hm.call hb) (by omega) (by omega)
  have c12 := fun W (hb : Below w4.heap.size w4 W) => symm_any (j := 1) W _ N N (dg N) (hm.call hb) (by omega) (by omega) (dg_size N) (by have := Nat.mul_le_mul hN hN; omega)
  simp only [count_dg, symm_dg] at c11 c12
  clear hbel c4 hv hm
  go_wp2_with fail
  obtain ⟨Z, hZ⟩ : ∃ Z, Z = w4.heap.size := ⟨_, rfl⟩
  have bZ := Bx.new_at w4 #[.int .i64 N, .int .i64 N, .slice va N vc] 63 hZ
  replace hin := hin.alloc (.cells #[.int .i64 N, .int .i64 N, .slice va N vc] 63)
  replace bY := bY.alloc (.cells #[.int .i64 N, .int .i64 N, .slice va N vc] 63)
  have h4 := (In.self w4).alloc (.cells #[.int .i64 N, .int .i64 N, .slice va N vc] 63)
  rw [← hZ]
  clear hZ
  ((with_reducible refine (c5 _).mono ?_))
  rintro e w5 ⟨rfl, hbel⟩
  replace hin := hin.call hbel
  replace bY := bY.call hbel
  replace bZ := bZ.call hbel
  replace h4 := h4.call hbel
  clear hbel c5
  have y0 := bY.c0
  have y1 := bY.c1
  have y2 := bY.c2
  have hYl := bY.lt
  have z0 := bZ.c0
  have z1 := bZ.c1
  have z2 := bZ.c2
  have hZl := bZ.lt
  (go_upto_region 13 with fail; go_step; simp only [List.append_eq, List.cons_append, List.nil_append])
  go_wp2_with fail
  ((with_reducible refine (c11 _ h4.bel).mono ?_))
  rintro e w6 ⟨rfl, hbel⟩
  replace hin := hin.call hbel
  replace h4 := h4.call hbel
  clear y0 y1 y2 hYl z0 z1 z2 hZl bY
  replace bZ := bZ.call hbel
  have z0 := bZ.c0
  have z1 := bZ.c1
  have z2 := bZ.c2
  have hZl := bZ.lt
  clear hbel c11
  go_wp2_with fail
  ((with_reducible refine (c12 _ h4.bel).mono ?_))
  rintro e w6 ⟨rfl, hbel⟩
  replace hin := hin.call hbel
  clear hbel c12 z0 z1 z2 hZl bZ h4
  ((go_wp2_with fail); (((with_reducible refine (c8 _).mono ?_))); (rintro e w7 ⟨rfl, hbel⟩); (replace hin := hin.call hbel); (have bz := Bx.new w7 #[.int .i64 0, .int .i64 0, .slice none 0 0] 63); (replace hin := hin.alloc (.cells #[.int .i64 0, .int .i64 0, .slice none 0 0] 63)); (clear hbel c8); (go_wp2_with fail); (((with_reducible refine (c7 _).mono ?_))); (rintro e w8 ⟨rfl, hbel⟩); (replace hin := hin.call hbel); (replace bz := bz.call hbel); (clear hbel c7); (go_wp2_with fail); (((with_reducible refine (c9 _).mono ?_))); (rintro e w9 ⟨rfl, hbel⟩); (replace hin := hin.call hbel); (replace bz := bz.call hbel); (clear hbel c9); (go_wp2_with fail); (((with_reducible refine (c10 _).mono ?_))); (rintro e w10 ⟨rfl, hbel⟩); (replace hin := hin.call hbel); (replace bz := bz.call hbel); (clear hbel c10); (have z0 := bz.c0); (have z1 := bz.c1); (have z2 := bz.c2); (have hzl := bz.lt); (clear bz); (go_wp2_with fail); (((with_reducible refine (c6 _).mono ?_))); (rintro e w11 ⟨rfl, hbel⟩); (replace hin := hin.call hbel); (clear hbel c6 z0 z1 z2 hzl); (go_wp2_with fail); (go_ret); (exact ⟨rfl, by rw [← HX.out]; exact hin.bel⟩))
end Gus
end
section
/- gussetlaw16.SparsesSizes: sizes that are taken. -/
namespace Gus
open Go Go.RowKit Go.Proofs
set_option maxRecDepth 100000 in
set_option maxHeartbeats 40000000 in
theorem sizes_empty (N M : Nat) (i k : Int) (hN : N ≤ 20) (hM : M ≤ 20) (h0 : N = 0 ∨ M = 0) (hi : ¬ (0 ≤ i ∧ i < N ∧ 0 ≤ k ∧ k < M)) (w : World) :
    Calls Tryz.prog 5 #[.int .i64 N, .int .i64 M, .int .i64 i, .int .i64 k] w fun e w' => e = .returned (.bool true) ∧ Below w.heap.size w w' := by
  have c1 := fun W => mcheck_any N M none 0 0 W
  have e1 : checkM N M 0 = 0 := by
    unfold checkM
    rw [if_pos (by unfold sidesE; rw [if_neg (by omega), if_neg (by omega)]), if_pos]
    rcases h0 with h | h <;> subst h <;> simp
  rw [e1] at c1
  have c2 := new_ok N M (by omega) (by omega)
  have c3 := fun W l (hI : ItsAt W (some ⟨l, 0, none⟩) [(i, k, 0)]) => of_ok (j := 1) W N M (some ⟨l, 0, none⟩) 1 [(i, k, 0)] hI (by omega) (by omega) (by simp) (fun x => by
    cases x with
    | zero => exact SzK.zero
    | succ x => simp; exact SzK.zero) (by simp)
  simp only [List.length_singleton] at c3
  have c4 := one_ok N (by omega)
  have c5 := fun W => mcheck_any N 0 none 0 0 W
  rw [square_eq, show sidesE (N : Int) N = 0 by unfold sidesE; rw [if_neg (by omega), if_neg (by omega)]] at c5
  have c6 := works_any
  have c7 := fracInt_any 1 (by decide) (by decide)
  obtain ⟨q, hq⟩ : ∃ q : Rat, q = ((1 : Int) : Rat) := ⟨_, rfl⟩
  rw [← hq] at c7
  clear hq
  have c8 := bsparse_nil
  have c9 := fun W => badd_nil i k q W
  have c10 : ∀ W, Calls Tryz.prog 17 #[.pointer none, .int .i64 i, .int .i64 k] W fun e w' => e = .returned (.agg #[.int .u64 0, .string ⟨#[]⟩, .bool false, .int .u64 0, .string ⟨#[]⟩]) ∧ Below W.heap.size W w' := fun W => bat_nil i k W
  have heq : ∀ W, (binOp .eql 56 (.agg #[.int .u64 0, .string ⟨#[]⟩, .bool false, .int .u64 0, .string ⟨#[]⟩]) (.agg #[.int .u64 0, .string ⟨#[]⟩, .bool false, .int .u64 0, .string ⟨#[]⟩])).run Tryz.prog W = .ok (.bool true) W := fun W => fracEq_run 0 0 W
  have hn20 : ¬ (20 : Int) < N := by omega
  have hm20 : ¬ (20 : Int) < M := by omega
  have hin1 : ([(i, k, (0 : Rat))] : List Itm).all (okI N M) = false := by
    simp only [List.all_cons, List.all_nil, Bool.and_true]
    unfold okI
    simp
    omega
  have hI1 := Lib.hid hin1
  clear hin1
  clear e1
  obtain ⟨X, hX⟩ : ∃ X, X = w.heap.size := ⟨_, rfl⟩
  have H0 := Lib.hid h0
  clear h0
  go_enter Tryz.func5, Tryz.ntmps5
  go_wp2_with fail
  ((with_reducible refine (c1 _).mono ?_))
  rintro e w1 ⟨rfl, hbel⟩
  have hin : In X w w1 := by rw [hX]; exact (In.self w).call hbel
  have HX := Lib.hid hX
  clear hbel hX c1
  go_upto_region 4 with fail
  go_cut [48] from 39 to 48 (fun v48 wx => v48 = .bool false ∧ w1 = wx)
  case first =>
    by_cases h1 : (0 : Int) < N
    · have h2 : ¬ (0 : Int) < M := by have := H0.out; omega
      go_wp2_with fail
      go_meet
      exact ⟨rfl, rfl⟩
    · go_wp2_with fail
      go_meet
      exact ⟨rfl, rfl⟩
  case rest =>
    obtain ⟨rfl, rfl⟩ := hcut
    go_wp2_with fail
    ((with_reducible refine (c2 _).mono ?_))
    rintro e w2 ⟨b, rfl, _, _, hbel⟩
    replace hin := hin.call hbel
    clear hbel c2
    go_wp2_with fail
    obtain ⟨l, hl⟩ : ∃ l, l = w2.heap.size := ⟨_, rfl⟩
    have bl := Bx.new_at w2 #[.int .i64 i, .int .i64 k, .int .u64 0, .string ⟨#[]⟩, .bool false, .int .u64 0, .string ⟨#[]⟩] 60 hl
    replace hin := hin.alloc (.cells #[.int .i64 i, .int .i64 k, .int .u64 0, .string ⟨#[]⟩, .bool false, .int .u64 0, .string ⟨#[]⟩] 60)
    rw [← hl]
    clear hl
    ((with_reducible refine (c3 _ l ?_).mono ?_))
    · intro x hx
      have h0 : x = 0 := by simpa using hx
      subst h0
      refine ⟨l, 0, rfl, bl.lt, fun y hy => ?_⟩
      rw [bl.cell]
      have h7 : y = 0 ∨ y = 1 ∨ y = 2 ∨ y = 3 ∨ y = 4 ∨ y = 5 ∨ y = 6 := by omega
      rcases h7 with rfl | rfl | rfl | rfl | rfl | rfl | rfl <;> rfl
    rintro e w3 ⟨hof, hbel⟩
    rcases hof with ⟨hof, _⟩ | ⟨_, rfl⟩
    · rw [hI1.out] at hof; cases hof
    replace hin := hin.call hbel
    clear hbel c3 bl
    go_upto_region 9 with fail
    obtain ⟨Y, hY⟩ : ∃ Y, Y = w3.heap.size := ⟨_, rfl⟩
    have bY := Bx.new_at w3 #[.int .i64 0, .int .i64 0, .slice none 0 0] 63 hY
    replace hin := hin.alloc (.cells #[.int .i64 0, .int .i64 0, .slice none 0 0] 63)
    rw [← hY]
    clear hY
    generalize w3.alloc (.cells #[.int .i64 0, .int .i64 0, .slice none 0 0] 63) = W4 at *
    go_cut [85] from 66 to 85 (fun v85 wx => v85 = .bool true ∧ W4 = wx)
    case first =>
      by_cases b1 : i < 0
      · go_wp2_with fail
        go_meet
        exact ⟨rfl, rfl⟩
      · by_cases b2 : (N : Int) ≤ i
        · go_wp2_with fail
          go_meet
          exact ⟨rfl, rfl⟩
        · by_cases b3 : k < 0
          · go_wp2_with fail
            go_meet
            exact ⟨rfl, rfl⟩
          · have b4 : (M : Int) ≤ k := by omega
            go_wp2_with fail
            go_meet
            exact ⟨rfl, rfl⟩
    obtain ⟨rfl, rfl⟩ := hcut
    go_wp2_with fail
    ((with_reducible refine (c4 _).mono ?_))
    rintro e w4 ⟨v, rfl, hv, hbel⟩
    replace hin := hin.call hbel
    replace bY := bY.call hbel
    have hm := hv.m
    obtain ⟨va, vc, rfl⟩ := hm.shape
    have c11 := fun W (hb : Below w4.heap.size w4 W) => count_ok W _ N N (dg N) (hm.call hb) (by omega) (by omega)
    have c12 := fun W (hb : Below w4.heap.size w4 W) => symm_any (j := 1) W _ N N (dg N) (hm.call hb) (by omega) (by omega) (dg_size N) (by have := Nat.mul_le_mul hN hN; omega)
    simp only [count_dg, symm_dg] at c11 c12
    clear hbel c4 hv hm
    go_wp2_with fail
    obtain ⟨Z, hZ⟩ : ∃ Z, Z = w4.heap.size := ⟨_, rfl⟩
    have bZ := Bx.new_at w4 #[.int .i64 N, .int .i64 N, .slice va N vc] 63 hZ
    replace hin := hin.alloc (.cells #[.int .i64 N, .int .i64 N, .slice va N vc] 63)
    replace bY := bY.alloc (.cells #[.int .i64 N, .int .i64 N, .slice va N vc] 63)
    have h4 := (In.self w4).alloc (.cells #[.int .i64 N, .int .i64 N, .slice va N vc] 63)
    rw [← hZ]
    clear hZ
    ((with_reducible refine (c5 _).mono ?_))
    rintro e w5 ⟨rfl, hbel⟩
    replace hin := hin.call hbel
    replace bY := bY.call hbel
    replace bZ := bZ.call hbel
    replace h4 := h4.call hbel
    clear hbel c5
    have y0 := bY.c0
    have y1 := bY.c1
    have y2 := bY.c2
    have hYl := bY.lt
    have z0 := bZ.c0
    have z1 := bZ.c1
    have z2 := bZ.c2
    have hZl := bZ.lt
    (go_upto_region 13 with fail; go_step; simp only [List.append_eq, List.cons_append, List.nil_append])
    go_wp2_with fail
    ((with_reducible refine (c11 _ h4.bel).mono ?_))
    rintro e w6 ⟨rfl, hbel⟩
    replace hin := hin.call hbel
    replace h4 := h4.call hbel
    clear y0 y1 y2 hYl z0 z1 z2 hZl bY
    replace bZ := bZ.call hbel
    have z0 := bZ.c0
    have z1 := bZ.c1
    have z2 := bZ.c2
    have hZl := bZ.lt
    clear hbel c11
    go_wp2_with fail
    ((with_reducible refine (c12 _ h4.bel).mono ?_))
    rintro e w6 ⟨rfl, hbel⟩
    replace hin := hin.call hbel
    clear hbel c12 z0 z1 z2 hZl bZ h4
    ((go_wp2_with fail); (((with_reducible refine (c8 _).mono ?_))); (rintro e w7 ⟨rfl, hbel⟩); (replace hin := hin.call hbel); (have bz := Bx.new w7 #[.int .i64 0, .int .i64 0, .slice none 0 0] 63); (replace hin := hin.alloc (.cells #[.int .i64 0, .int .i64 0, .slice none 0 0] 63)); (clear hbel c8); (go_wp2_with fail); (((with_reducible refine (c7 _).mono ?_))); (rintro e w8 ⟨rfl, hbel⟩); (replace hin := hin.call hbel); (replace bz := bz.call hbel); (clear hbel c7); (go_wp2_with fail); (((with_reducible refine (c9 _).mono ?_))); (rintro e w9 ⟨rfl, hbel⟩); (replace hin := hin.call hbel); (replace bz := bz.call hbel); (clear hbel c9); (go_wp2_with fail); (((with_reducible refine (c10 _).mono ?_))); (rintro e w10 ⟨rfl, hbel⟩); (replace hin := hin.call hbel); (replace bz := bz.call hbel); (clear hbel c10); (have z0 := bz.c0); (have z1 := bz.c1); (have z2 := bz.c2); (have hzl := bz.lt); (clear bz); (go_wp2_with fail); (((with_reducible refine (c6 _).mono ?_))); (rintro e w11 ⟨rfl, hbel⟩); (replace hin := hin.call hbel); (clear hbel c6 z0 z1 z2 hzl); (go_wp2_with fail); (go_ret); (exact ⟨rfl, by rw [← HX.out]; exact hin.bel⟩))
end Gus
end
