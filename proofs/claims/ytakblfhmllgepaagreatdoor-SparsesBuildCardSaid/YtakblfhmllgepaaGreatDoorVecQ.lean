/- Proved here: parts of the proof: Vec VecB App. Conditions: those that each theorem states. -/
import Derived.Test.YtakblfhmllgepaaGreatDoorShelfUQ
section
/- Vectors of fractions. -/
namespace Gus
open Go Go.RowKit Go.Proofs
/-- the cells of a fraction, in a block of fractions -/
structure FEl (w : World) (b o : Nat) (q : Rat) : Prop where
  cells : ∀ j, j < 5 → w.cell? ⟨b, o + j, none⟩ = (fcs q)[j]?
  typed : ∃ cur fz, w.heap[b]? = some (Obj.cells cur 56 fz)
instance (w : World) (b o : Nat) (q : Rat) : CoeFun (FEl w b o q) (fun _ => ∀ j, j < 5 → w.cell? ⟨b, o + j, none⟩ = (fcs q)[j]?) := ⟨FEl.cells⟩
/-- v is a slice of these fractions -/
def VecAt (w : World) (v : Value) (qs : List Rat) : Prop :=
  ∃ a cap, v = .slice a qs.length cap ∧ ∀ i, i < qs.length → ∃ b off, a = some ⟨b, off, none⟩ ∧ b < w.heap.size ∧ FEl w b (off + i * 5) (qs.getD i 0)
theorem VecAt.below {N : Nat} {w w' : World} {v : Value} {qs : List Rat} (h : VecAt w v qs) (hN : w.heap.size ≤ N) (hb : Below N w w') : VecAt w' v qs := by
  obtain ⟨a, cap, h1, h2⟩ := h
  refine ⟨a, cap, h1, fun i hi => ?_⟩
  obtain ⟨b, off, h3, h4, h5⟩ := h2 i hi
  refine ⟨b, off, h3, Nat.lt_of_lt_of_le h4 hb.size, fun j hj => ?_, by rw [hb.block b (Nat.lt_of_lt_of_le h4 hN)]; exact h5.typed⟩
  rw [hb.cell (p := ⟨b, off + i * 5 + j, none⟩) (Nat.lt_of_lt_of_le h4 hN)]
  exact h5 j hj
theorem VecAt.call {w w' : World} {v : Value} {qs : List Rat} (h : VecAt w v qs) (hb : Below w.heap.size w w') : VecAt w' v qs := h.below (Nat.le_refl _) hb
theorem VecAt.nil (w : World) (a : Option Addr) (cap : Nat) : VecAt w (.slice a 0 cap) [] := ⟨a, cap, rfl, fun _ h => absurd h (Nat.not_lt_zero _)⟩
/-- the cells of element i, named -/
theorem VecAt.at {w : World} {v : Value} {qs : List Rat} (h : VecAt w v qs) {i : Nat} (hi : i < qs.length) :
    ∃ b off cap A1 A2 A3 A4 A5, v = .slice (some ⟨b, off, none⟩) qs.length cap ∧ b < w.heap.size ∧ fcs (qs.getD i 0) = [.int .u64 A1, .string A2, .bool A3, .int .u64 A4, .string A5] ∧ fracV (qs.getD i 0) = .agg #[.int .u64 A1, .string A2, .bool A3, .int .u64 A4, .string A5] ∧
      w.cell? ⟨b, off + i * 5, none⟩ = some (.int .u64 A1) ∧ w.cell? ⟨b, off + i * 5 + 1, none⟩ = some (.string A2) ∧ w.cell? ⟨b, off + i * 5 + 2, none⟩ = some (.bool A3) ∧ w.cell? ⟨b, off + i * 5 + 3, none⟩ = some (.int .u64 A4) ∧ w.cell? ⟨b, off + i * 5 + 4, none⟩ = some (.string A5) := by
  obtain ⟨a, cap, h1, h2⟩ := h
  obtain ⟨b, off, h3, h4, h5⟩ := h2 i hi
  subst h3
  exact ⟨b, off, cap, _, _, _, _, _, h1, h4, rfl, rfl, h5 0 (by decide), h5 1 (by decide), h5 2 (by decide), h5 3 (by decide), h5 4 (by decide)⟩
/-- a vector stands where another kind of row grows -/
theorem VecAt.grown {w w' : World} {v : Value} {qs : List Rat} {g : Nat} {cur : Array Value} {T : TypeId} {fz : Nat × Nat} (h : VecAt w v qs) (hg : w.heap[g]? = some (Obj.cells cur T fz)) (hT : T ≠ 56) (hgr : w.grownBy w' (some g)) : VecAt w' v qs := by
  obtain ⟨a, cap, h1, h2⟩ := h
  refine ⟨a, cap, h1, fun i hi => ?_⟩
  obtain ⟨b, off, h3, h4, h5⟩ := h2 i hi
  have hne : some b ≠ some g := fun e => by
    injection e with e
    subst e
    obtain ⟨cur2, fz2, h6⟩ := h5.typed
    rw [hg] at h6
    injection h6 with h7
    injection h7 with _ h8
    exact hT h8
  have hbk := hgr.block b h4 hne
  refine ⟨b, off, h3, Nat.lt_of_lt_of_le h4 hgr.size, fun j hj => ?_, by rw [hbk]; exact h5.typed⟩
  have := h5 j hj
  unfold World.cell? at this ⊢
  rw [hbk]; exact this
theorem VecAt.shape {w : World} {v : Value} {qs : List Rat} (h : VecAt w v qs) : ∃ a cap, v = .slice a qs.length cap := let ⟨a, cap, h1, _⟩ := h; ⟨a, cap, h1⟩
theorem fcl_at : ∀ (qs : List Rat) (i j : Nat), i < qs.length → j < 5 → (fcl qs)[i * 5 + j]? = (fcs (qs.getD i 0))[j]?
  | [], i, j, h, _ => absurd h (Nat.not_lt_zero _)
  | q :: qs, 0, j, _, hj => by
    unfold fcl
    rw [List.flatMap_cons, Nat.zero_mul, Nat.zero_add, List.getElem?_append_left (by exact hj)]; rfl
  | q :: qs, i + 1, j, h, hj => by
    have := fcl_at qs i j (Nat.lt_of_succ_lt_succ h) hj
    unfold fcl at this ⊢
    rw [List.flatMap_cons, List.getElem?_append_right (by show 5 ≤ _; omega), show (i + 1) * 5 + j - (fcs q).length = i * 5 + j by show (i + 1) * 5 + j - 5 = _; omega, this]; rfl
/-- block g holds just these fractions -/
abbrev VBx (w : World) (g : Nat) (qs : List Rat) : Prop := Bx w g 56 (fcl qs)
theorem VBx.at {w : World} {g : Nat} {qs : List Rat} (h : VBx w g qs) (n : Nat) (hn : n = qs.length) (cap : Nat) : VecAt w (.slice (some ⟨g, 0, none⟩) n cap) qs := by
  subst hn
  exact ⟨_, _, rfl, fun i hi => ⟨g, 0, rfl, h.lt, fun j hj => by rw [h.cell, Nat.zero_add, fcl_at qs i j hi hj], _, _, h⟩⟩
theorem fcl_set : ∀ (qs : List Rat) (i : Nat) (q : Rat), i < qs.length → (((((fcl qs).set (i * 5) (.int .u64 (lo q.num.natAbs))).set (i * 5 + 1) (.string (bg q.num.natAbs))).set (i * 5 + 2) (.bool (decide (q.num < 0)))).set (i * 5 + 3) (.int .u64 (lo (q.den - 1)))).set (i * 5 + 4) (.string (bg (q.den - 1))) = fcl (qs.set i q)
  | [], i, q, h => absurd h (Nat.not_lt_zero _)
  | p :: qs, 0, q, _ => rfl
  | p :: qs, i + 1, q, h => by
    have ih := fcl_set qs i q (Nat.lt_of_succ_lt_succ h)
    unfold fcl at ih ⊢
    rw [List.set_cons_succ, List.flatMap_cons, List.flatMap_cons, ← ih]
    have e : (i + 1) * 5 = i * 5 + 1 + 1 + 1 + 1 + 1 := by omega
    rw [e]
    rfl
/-- a fraction is stored in a vector -/
theorem VBx.set {w : World} {g : Nat} {qs : List Rat} (h : VBx w g qs) (i : Nat) (q : Rat) (hi : i < qs.length) :
    VBx (((((w.setCell ⟨g, i * 5, none⟩ (.int .u64 (lo q.num.natAbs))).setCell ⟨g, i * 5 + 1, none⟩ (.string (bg q.num.natAbs))).setCell ⟨g, i * 5 + 2, none⟩ (.bool (decide (q.num < 0)))).setCell ⟨g, i * 5 + 3, none⟩ (.int .u64 (lo (q.den - 1)))).setCell ⟨g, i * 5 + 4, none⟩ (.string (bg (q.den - 1)))) g (qs.set i q) := by
  have h5 := ((((Bx.set h (i * 5) (.int .u64 (lo q.num.natAbs))).set (i * 5 + 1) (.string (bg q.num.natAbs))).set (i * 5 + 2) (.bool (decide (q.num < 0)))).set (i * 5 + 3) (.int .u64 (lo (q.den - 1)))).set (i * 5 + 4) (.string (bg (q.den - 1)))
  rw [fcl_set qs i q hi] at h5
  exact h5
/-- what a store or a load of element i asks -/
theorem VBx.cells {w : World} {g : Nat} {qs : List Rat} (h : VBx w g qs) {i : Nat} (hi : i < qs.length) : ∃ A1 A2 A3 A4 A5, fracV (qs.getD i 0) = .agg #[.int .u64 A1, .string A2, .bool A3, .int .u64 A4, .string A5] ∧
    w.cell? ⟨g, i * 5, none⟩ = some (.int .u64 A1) ∧ w.cell? ⟨g, i * 5 + 1, none⟩ = some (.string A2) ∧ w.cell? ⟨g, i * 5 + 2, none⟩ = some (.bool A3) ∧ w.cell? ⟨g, i * 5 + 3, none⟩ = some (.int .u64 A4) ∧ w.cell? ⟨g, i * 5 + 4, none⟩ = some (.string A5) ∧
    w.frozen? ⟨g, i * 5, none⟩ = false ∧ w.frozen? ⟨g, i * 5 + 1, none⟩ = false ∧ w.frozen? ⟨g, i * 5 + 2, none⟩ = false ∧ w.frozen? ⟨g, i * 5 + 3, none⟩ = false ∧ w.frozen? ⟨g, i * 5 + 4, none⟩ = false := by
  have hc := fun j hj => (h.cell (i * 5 + j)).trans (fcl_at qs i j hi hj)
  exact ⟨_, _, _, _, _, rfl, hc 0 (by decide), hc 1 (by decide), hc 2 (by decide), hc 3 (by decide), hc 4 (by decide), h.frozen _, h.frozen _, h.frozen _, h.frozen _, h.frozen _⟩
theorem In.put5 {N : Nat} {W0 w : World} {g : Nat} (h : In N W0 w) (hg : N ≤ g) (i : Nat) (q : Rat) :
    In N W0 (((((w.setCell ⟨g, i * 5, none⟩ (.int .u64 (lo q.num.natAbs))).setCell ⟨g, i * 5 + 1, none⟩ (.string (bg q.num.natAbs))).setCell ⟨g, i * 5 + 2, none⟩ (.bool (decide (q.num < 0)))).setCell ⟨g, i * 5 + 3, none⟩ (.int .u64 (lo (q.den - 1)))).setCell ⟨g, i * 5 + 4, none⟩ (.string (bg (q.den - 1)))) :=
  ((((h.setCell (p := ⟨g, i * 5, none⟩) hg _).setCell (p := ⟨g, i * 5 + 1, none⟩) hg _).setCell (p := ⟨g, i * 5 + 2, none⟩) hg _).setCell (p := ⟨g, i * 5 + 3, none⟩) hg _).setCell (p := ⟨g, i * 5 + 4, none⟩) hg _
theorem gr_put5 (w : World) (g i : Nat) (q : Rat) :
    w.grownBy (((((w.setCell ⟨g, i * 5, none⟩ (.int .u64 (lo q.num.natAbs))).setCell ⟨g, i * 5 + 1, none⟩ (.string (bg q.num.natAbs))).setCell ⟨g, i * 5 + 2, none⟩ (.bool (decide (q.num < 0)))).setCell ⟨g, i * 5 + 3, none⟩ (.int .u64 (lo (q.den - 1)))).setCell ⟨g, i * 5 + 4, none⟩ (.string (bg (q.den - 1)))) (some g) :=
  ((((gr_cell w ⟨g, i * 5, none⟩ _).trans (gr_cell _ ⟨g, i * 5 + 1, none⟩ _)).trans (gr_cell _ ⟨g, i * 5 + 2, none⟩ _)).trans (gr_cell _ ⟨g, i * 5 + 3, none⟩ _)).trans (gr_cell _ ⟨g, i * 5 + 4, none⟩ _)
theorem info_frac5 : (Tryz.prog.info? 56).map (fun i => (i.zero, i.size, i.bytes)) = some (some (.agg #[.int .u64 0, .string ⟨#[]⟩, .bool false, .int .u64 0, .string ⟨#[]⟩]), 5, 56) := by kernel_rfl
theorem made_frac (L : Nat) : madeCells (Value.agg #[.int .u64 0, .string ⟨#[]⟩, .bool false, .int .u64 0, .string ⟨#[]⟩]).cells (L * 5) = (fcl (List.replicate L 0)).toArray := by
  apply Array.ext
  · simp [madeCells, fcl_length]
  · intro t h1 h2
    have ht : t < L * 5 := by simpa [madeCells] using h1
    have h3 : t / 5 < (List.replicate L (0 : Rat)).length := by simp; omega
    have h4 : t % 5 < 5 := Nat.mod_lt _ (by decide)
    have h5 := fcl_at (List.replicate L (0 : Rat)) (t / 5) (t % 5) h3 h4
    rw [show t / 5 * 5 + t % 5 = t by omega] at h5
    have e0 : (List.replicate L (0 : Rat)).getD (t / 5) 0 = 0 := by
      rw [List.getD_eq_getElem?_getD, List.getElem?_replicate]; split <;> rfl
    rw [e0] at h5
    have h6 : t < (fcl (List.replicate L (0 : Rat))).length := by simpa using h2
    rw [List.getElem?_eq_getElem h6] at h5
    simp only [madeCells, Array.getElem_map, Array.getElem_range, List.getElem_toArray]
    have h7 : t % 5 = 0 ∨ t % 5 = 1 ∨ t % 5 = 2 ∨ t % 5 = 3 ∨ t % 5 = 4 := by omega
    have hs : (Value.agg #[.int .u64 0, .string ⟨#[]⟩, .bool false, .int .u64 0, .string ⟨#[]⟩]).cells.size = 5 := rfl
    rw [hs]
    rcases h7 with h | h | h | h | h <;> rw [h] at h5 ⊢ <;> exact (Option.some.inj h5.symm)
theorem mk_vec (L : Nat) (hL : L ≤ 4194304) (w : World) : (Instr.makeSlice 76 (.int .i64 (L : Int)) (.int .i64 (L : Int))).run Tryz.prog w =
    .ok (.slice (some ⟨w.heap.size, 0, none⟩) L L) (w.alloc (.cells (fcl (List.replicate L 0)).toArray 56)) := by
  obtain ⟨i0, hi, hz0, hz1, hz2⟩ := info_parts info_frac5
  have := run_make (P := Tryz.prog) w 76 56 i0 _ Tryz.underlying76 hi hz0 .i64 .i64 L L (by omega) (Int.le_refl _) (by rw [hz2]; omega) (by omega)
  rw [this]
  simp only [Int.toNat_natCast, hz1]
  rw [made_frac]
theorem VBx.made (w : World) (L : Nat) : VBx (w.alloc (.cells (fcl (List.replicate L 0)).toArray 56)) w.heap.size (List.replicate L 0) := Bx.new w _ _
/-- a slice of integers as it is read -/
def IntsAt (w : World) (a : Option Addr) (xs : List Int) : Prop := ∀ i, i < xs.length → ∃ b off, a = some ⟨b, off, none⟩ ∧ b < w.heap.size ∧ w.cell? ⟨b, off + i, none⟩ = some (.int .i64 (xs.getD i 0))
theorem IntsAt.call {w w' : World} {a : Option Addr} {xs : List Int} (h : IntsAt w a xs) (hb : Below w.heap.size w w') : IntsAt w' a xs := fun i hi => by
  obtain ⟨b, off, h1, h2, h3⟩ := h i hi
  exact ⟨b, off, h1, Nat.lt_of_lt_of_le h2 hb.size, by rw [hb.cell (p := ⟨b, off + i, none⟩) h2]; exact h3⟩
end Gus
end
section
/- vecs.Of, sparses.goes, sparses.Apply. -/
namespace Gus
open Go Go.RowKit Go.Proofs
/-- a vector of which the first k elements are laid -/
def pv (F : Nat → Rat) (n k : Nat) : List Rat := (List.range n).map fun i => if i < k then F i else 0
theorem pv_length (F : Nat → Rat) (n k : Nat) : (pv F n k).length = n := by simp [pv]
theorem pv_zero (F : Nat → Rat) (n : Nat) : pv F n 0 = List.replicate n 0 := by
  unfold pv
  apply List.ext_getElem
  · simp
  · intro i h1 h2; simp
theorem pv_set (F : Nat → Rat) (n k : Nat) : (pv F n k).set k (F k) = pv F n (k + 1) := by
  apply List.ext_getElem
  · simp [pv]
  · intro i h1 h2
    simp only [pv, List.getElem_set, List.getElem_map, List.getElem_range]
    by_cases h : k = i
    · subst h; rw [if_pos rfl, if_pos (by omega)]
    · rw [if_neg h]
      by_cases h2 : i < k
      · rw [if_pos h2, if_pos (by omega)]
      · rw [if_neg h2, if_neg (by omega)]
theorem pv_full (F : Nat → Rat) (n : Nat) : pv F n n = (List.range n).map F := by
  unfold pv
  exact List.map_congr_left fun i hi => by rw [if_pos (List.mem_range.1 hi)]
set_option maxRecDepth 100000 in
set_option maxHeartbeats 2000000 in
theorem vof_any (w : World) (a : Option Addr) (cap : Nat) (xs : List Int) (hx : IntsAt w a xs) (hl : xs.length ≤ 4096) (hb : ∀ i, -9223372036854775808 ≤ xs.getD i 0 ∧ xs.getD i 0 < 9223372036854775808) :
    Calls Tryz.prog 21 #[.slice a xs.length cap] w fun e w' => ∃ g, e = .returned (.slice (some ⟨g, 0, none⟩) xs.length xs.length) ∧ w.heap.size ≤ g ∧ VBx w' g ((List.range xs.length).map fun i => ((xs.getD i 0 : Int) : Rat)) ∧ Below w.heap.size w w' := by
  obtain ⟨L, hL⟩ : ∃ L, L = xs.length := ⟨_, rfl⟩
  unfold IntsAt at hx
  rw [← hL] at hx hl ⊢
  have HMK := Lib.hid (mk_vec L (by omega))
  have HX := Lib.hid hx
  have HB := Lib.hid hb
  obtain ⟨X, hX⟩ : ∃ X, X = w.heap.size := ⟨_, rfl⟩
  have hmk := HMK.out w
  rw [← hX] at hmk
  have HW := Lib.hid hX
  rw [← hX]
  clear hL hb hx
  go_enter Tryz.func21, Tryz.ntmps21
  go_wp2_with fail
  have hv := Bx.new_at w (fcl (List.replicate L 0)).toArray 56 hX
  have hin : In X w (w.alloc (.cells (fcl (List.replicate L 0)).toArray 56)) := by rw [hX]; exact (In.self w).alloc _
  rw [← hX]
  clear hmk hX
  generalize w.alloc (.cells (fcl (List.replicate L 0)).toArray 56) = W1 at *
  rw [show (fcl (List.replicate L 0)).toArray.toList = fcl (pv (fun i => ((xs.getD i 0 : Int) : Rat)) L 0) by rw [pv_zero]] at hv
  go_loopw [10] (fun v10 wr => ∃ k : Nat, k ≤ L ∧ v10 = .int .i64 k ∧ In X w wr ∧ VBx wr X (pv (fun i => ((xs.getD i 0 : Int) : Rat)) L k)) (fun v10 _ => L - (RowKit.intOf v10).toNat)
  case atStart => exact ⟨0, Nat.zero_le _, rfl, hin, hv⟩
  case round =>
    clear hin hv
    obtain ⟨k, hk, rfl, hin, hv⟩ := hrel
    by_cases hkL : k < L
    · obtain ⟨b, off, rfl, hb, hc⟩ := HX.out k hkL
      have hbd := HB.out k
      obtain ⟨x, hx⟩ : ∃ x, x = xs.getD k 0 := ⟨_, rfl⟩
      rw [← hx] at hc hbd
      have h1 := fracInt_any x hbd.1 hbd.2
      rw [← HW.out] at hb
      rw [← hin.cell b _ hb] at hc
      have hbw : b < wr.heap.size := by have := hin.siz; omega
      have hkI : (k : Int) < L := by omega
      have hk0 : (0 : Int) ≤ k := by omega
      obtain ⟨q, hq⟩ : ∃ q : Rat, q = (x : Rat) := ⟨_, rfl⟩
      rw [← hq] at h1
      have HXX : Hid (q = ((xs.getD k 0 : Int) : Rat)) := Lib.hid (by rw [hq, hx])
      clear hx hq
      go_wp2_with fail
      ((with_reducible refine (h1 _).mono ?_))
      rintro e w2 ⟨rfl, hb2⟩
      have hin2 := hin.call hb2
      have hv2 := hv.call hb2
      have hs := VBx.set hv2 k q (by rw [pv_length]; exact hkL)
      rw [show (pv (fun i => ((xs.getD i 0 : Int) : Rat)) L k).set k q = pv (fun i => ((xs.getD i 0 : Int) : Rat)) L (k + 1) by rw [HXX.out]; exact pv_set _ _ _] at hs
      have HS := Lib.hid hs
      have hXl := hv2.lt
      obtain ⟨B1, B2, B3, B4, B5, _, c0, c1, c2, c3, c4, g0, g1, g2, g3, g4⟩ := VBx.cells hv2 (i := k) (by rw [pv_length]; exact hkL)
      have hkw : IntKind.i64.wrap ((k : Int) + 1) = ((k + 1 : Nat) : Int) := IntWalk.i64_in _ (by omega)
      clear hb2 hin hv hc hbw hs h1 hv2
      have HI := Lib.hid hin2
      clear hin2
      go_wp2_with fail
      exact ⟨⟨k + 1, by omega, by go_num, HI.out.put5 (Nat.le_refl _) k q, HS.out⟩, by simp [RowKit.intOf]; omega⟩
    · have hkL' : k = L := by omega
      have hkI : ¬ (k : Int) < L := by omega
      subst hkL'
      rw [pv_full] at hv
      have H1 := Lib.hid hv
      have H2 := Lib.hid hin
      clear hv hin
      go_wp2_with fail
      go_ret
      exact ⟨X, rfl, Nat.le_refl _, H1.out, H2.out.bel.mono (by rw [HW.out]; exact Nat.le_refl _)⟩
end Gus
end
section
/- sparses.goes, sparses.Apply. -/
namespace Gus
open Go Go.RowKit Go.Proofs
/-- a slice of slices as it is read: their lengths -/
def LensAt (w : World) (a : Option Addr) (ns : List Nat) : Prop := ∀ i, i < ns.length → ∃ b off x c, a = some ⟨b, off, none⟩ ∧ b < w.heap.size ∧ w.cell? ⟨b, off + i, none⟩ = some (.slice x (ns.getD i 0) c)
def goesS (n m : Int) (rows : List (List EntI)) (ns : List Nat) : Int := if checkS n m rows ≠ 0 then checkS n m rows else if ns.all (fun k => decide (k ≤ 2048)) = true then 0 else 3
set_option maxRecDepth 100000 in
set_option maxHeartbeats 2000000 in
theorem goes_any (w : World) (v : Value) (n m : Int) (rows : List (List EntI)) (h : SpG w v n m rows) (hr : rows.length ≤ 4096) (hl : ∀ i, (rows.getD i []).length ≤ 4096) (a : Option Addr) (cap : Nat) (ns : List Nat) (hv : LensAt w a ns) (hn : ns.length ≤ 4096) :
    Calls Tryz.prog 48 #[v, .slice a ns.length cap] w fun e w' => e = .returned (.int .i64 (goesS n m rows ns)) ∧ Below w.heap.size w w' := by
  have hck := fun W (hb : Below w.heap.size w W) => scheck_any W v n m rows (h.call hb) hr hl
  obtain ⟨sa, sc, rfl, _⟩ := h
  obtain ⟨L, hL⟩ : ∃ L, L = ns.length := ⟨_, rfl⟩
  unfold LensAt at hv
  unfold goesS
  rw [← hL] at hv hn ⊢
  obtain ⟨s, hs⟩ : ∃ s, s = checkS n m rows := ⟨_, rfl⟩
  rw [← hs] at hck ⊢
  obtain ⟨K, hK⟩ : ∃ K, K = rows.length := ⟨_, rfl⟩
  rw [← hK] at hck ⊢
  obtain ⟨ok, hok⟩ : ∃ ok, ok = ns.all fun k => decide (k ≤ 2048) := ⟨_, rfl⟩
  rw [← hok]
  have HV := Lib.hid hv
  have HL := Lib.hid hL
  have HOK : Hid (ok = (ns.drop 0).all fun k => decide (k ≤ 2048)) := Lib.hid hok
  obtain ⟨X, hX⟩ : ∃ X, X = w.heap.size := ⟨_, rfl⟩
  have HX := Lib.hid hX
  clear hv hL hs hK hr hl hok
  by_cases h0 : s = 0
  · subst h0
    rw [if_neg (by decide)]
    go_enter Tryz.func48, Tryz.ntmps48
    go_wp2_with fail
    ((with_reducible refine (hck _ ?_).mono ?_))
    · exact ((In.self w).alloc _).bel
    rintro e w1 ⟨rfl, hb1⟩
    have hin : In X w w1 := by rw [hX]; exact ((In.self w).alloc _).call hb1
    clear hb1 hX hck
    go_wp2_with fail
    go_loopw [15] (fun v15 wr => ∃ i : Nat, i ≤ L ∧ v15 = .int .i64 i ∧ In X w wr ∧ Hid (ok = (ns.drop i).all fun k => decide (k ≤ 2048))) (fun v15 _ => L - (RowKit.intOf v15).toNat)
    case atStart => exact ⟨0, Nat.zero_le _, rfl, hin, HOK⟩
    case round =>
      clear hin HOK
      obtain ⟨i, hi, rfl, hin, HOK⟩ := hrel
      by_cases hiL : i < L
      · obtain ⟨b, off, x, c, rfl, hb, hc⟩ := HV.out i hiL
        have hok := HOK.out
        rw [drop_getD ns 0 (by rw [← HL.out]; exact hiL), List.all_cons] at hok
        obtain ⟨k, hk⟩ : ∃ k, k = ns.getD i 0 := ⟨_, rfl⟩
        rw [← hk] at hc hok
        rw [← HX.out] at hb
        rw [← hin.cell b _ hb] at hc
        have hbw : b < wr.heap.size := by have := hin.siz; omega
        have hiI : (i : Int) < L := by omega
        have hi0 : (0 : Int) ≤ i := by omega
        have hiw : IntKind.i64.wrap ((i : Int) + 1) = ((i + 1 : Nat) : Int) := IntWalk.i64_in _ (by omega)
        by_cases hk2 : k ≤ 2048
        · rw [decide_eq_true hk2, Bool.true_and] at hok
          have HOK2 := Lib.hid hok
          have hkI : ¬ (2048 : Int) < k := by omega
          clear hok hk HOK hk2
          go_wp2_with fail
          exact ⟨⟨i + 1, by omega, by go_num, hin, HOK2⟩, by simp [RowKit.intOf]; omega⟩
        · rw [decide_eq_false hk2, Bool.false_and] at hok
          subst hok
          have hkI : (2048 : Int) < k := by omega
          clear hk HOK hk2
          go_wp2_with fail
          go_ret
          exact ⟨rfl, by rw [← HX.out]; exact hin.bel⟩
      · have hok := HOK.out
        rw [List.drop_eq_nil_of_le (by rw [← HL.out]; omega), List.all_nil] at hok
        subst hok
        have hiI : ¬ (i : Int) < L := by omega
        clear HOK
        go_wp2_with fail
        go_ret
        exact ⟨rfl, by rw [← HX.out]; exact hin.bel⟩
  · rw [if_pos h0]
    have hb : (s != 0) = true := by simpa using h0
    clear h0
    go_enter Tryz.func48, Tryz.ntmps48
    go_wp2_with fail
    ((with_reducible refine (hck _ ?_).mono ?_))
    · exact ((In.self w).alloc _).bel
    rintro e w1 ⟨rfl, hb1⟩
    have hin : In X w w1 := by rw [hX]; exact ((In.self w).alloc _).call hb1
    clear hb1 hX hck
    go_wp2_with fail
    go_ret
    exact ⟨rfl, by rw [← HX.out]; exact hin.bel⟩
set_option maxRecDepth 100000 in
set_option maxHeartbeats 2000000 in
theorem app1_any {s j l : Nat} (W : World) (o p g : Nat) (vv : Value) (ys qs : List Rat) (i k : Nat) (x : Rat) (ho : Bx W o 76 [.slice (some ⟨g, 0, none⟩) ys.length ys.length]) (hp : Bx W p 76 [vv]) (hv : VecAt W vv qs) (hy : VBx W g ys) (hi : i < ys.length) (hk : k < qs.length)
    (h1 : SzK s (ys.getD i 0)) (h2 : SzK j x) (h3 : SzK l (qs.getD k 0)) (h4 : s + (j + l) + 1 < 17592186044416) :
    Calls Tryz.prog 49 #[.int .i64 i, .int .i64 k, fracV x, .pointer (some ⟨o, 0, none⟩), .pointer (some ⟨p, 0, none⟩)] W fun e w' => e = .returned (.tuple #[]) ∧ VBx w' g (ys.set i (ys.getD i 0 + x * qs.getD k 0)) ∧ W.grownBy w' (some g) := by
  have c1 := fmul_any x (qs.getD k 0) h2 h3 (by omega)
  have c2 := fadd_any (ys.getD i 0) (x * qs.getD k 0) h1 (h2.mul h3) h4
  obtain ⟨b, off, cap, C1, C2, C3, C4, C5, rfl, hb, _, hf, d0, d1, d2, d3, d4⟩ := hv.at hk
  obtain ⟨E1, E2, E3, E4, E5, hE, e0, e1, e2, e3, e4, g0, g1, g2, g3, g4⟩ := VBx.cells hy hi
  have o0 := ho.c0
  have p0 := hp.c0
  have hol := ho.lt
  have hpl := hp.lt
  have hgl := hy.lt
  obtain ⟨z, hz⟩ : ∃ z, z = ys.getD i 0 + x * qs.getD k 0 := ⟨_, rfl⟩
  have hset := fun w1 (h : VBx w1 g ys) => VBx.set h i z hi
  rw [hf] at c1
  rw [hE, ← hz] at c2
  rw [← hz]
  have HI := Lib.hid hi
  obtain ⟨K, hK⟩ : ∃ K, K = ys.length := ⟨_, rfl⟩
  rw [← hK] at o0 hi
  obtain ⟨M, hM⟩ : ∃ M, M = qs.length := ⟨_, rfl⟩
  rw [← hM] at p0 hk
  obtain ⟨y, hyy⟩ : ∃ y, y = x * qs.getD k 0 := ⟨_, rfl⟩
  rw [← hyy] at c1 c2
  obtain ⟨A1, A2, A3, A4, A5, hA⟩ : ∃ A1 A2 A3 A4 A5, fracV x = .agg #[.int .u64 A1, .string A2, .bool A3, .int .u64 A4, .string A5] := ⟨_, _, _, _, _, rfl⟩
  rw [hA] at c1 ⊢
  have hiI : (i : Int) < K := by omega
  have hi0 : (0 : Int) ≤ i := by omega
  have hkI : (k : Int) < M := by omega
  have hk0 : (0 : Int) ≤ k := by omega
  have HY := Lib.hid hy
  have HS := Lib.hid hset
  clear hyy hz hf hE h1 h2 h3 h4 hK hM hA hset hy hv ho hp
  go_enter Tryz.func49, Tryz.ntmps49
  go_upto_region 1 with fail
  obtain ⟨X, hX⟩ : ∃ X, X = W.heap.size := ⟨_, rfl⟩
  have bx := Bx.new_at W #[.int .u64 A1, .string A2, .bool A3, .int .u64 A4, .string A5] 56 hX
  have hin : In X W (W.alloc (.cells #[.int .u64 A1, .string A2, .bool A3, .int .u64 A4, .string A5] 56)) := by rw [hX]; exact (In.self W).alloc _
  have hg := World.grownBy_alloc W (.cells #[.int .u64 A1, .string A2, .bool A3, .int .u64 A4, .string A5] 56) (some g)
  have hy1 : VBx _ g ys := HY.out.alloc (.cells #[.int .u64 A1, .string A2, .bool A3, .int .u64 A4, .string A5] 56)
  rw [← hX] at hb hol hpl hgl ⊢
  rw [← hin.cell b _ hb] at d0 d1 d2 d3 d4
  rw [← hin.cell g _ hgl] at e0 e1 e2 e3 e4
  rw [← hin.cell o _ hol] at o0
  rw [← hin.cell p _ hpl] at p0
  have hXl := bx.lt
  have HG := Lib.hid hg
  have HY2 := Lib.hid hy1
  clear g0 g1 g2 g3 g4 hX hin HY hg hy1
  generalize W.alloc (.cells #[.int .u64 A1, .string A2, .bool A3, .int .u64 A4, .string A5] 56) = W1 at *
  have x0 := bx.c0
  have x1 := bx.c1
  have x2 := bx.c2
  have x3 := bx.c3
  have x4 := bx.c4
  have hb' : b < W1.heap.size := by omega
  have ho' : o < W1.heap.size := by omega
  have hp' : p < W1.heap.size := by omega
  have hg' : g < W1.heap.size := by omega
  refine wp_region_flow 14 (by kernel_rfl) (by kernel_rfl) (fun _ _ d _ _ h => by cases d <;> exact h) ?_; simp only [List.take_succ_cons, List.take_zero, List.drop_succ_cons, List.drop_zero]; simp only [putAll, Act.put, List.setIfInBounds_toArray, List.set]; (try simp only [Nat.reduceAdd]); (try simp only [Nat.zero_add]); (repeat (first | ((with_reducible refine flow_float (v := ?_) ?_ ?_ ?_); rotate_left 1; (focus (with_reducible rfl)); (focus (intro u w1 hw hd w2; (try simp only [depH] at hd); (try simp only [ext] at hd); (try simp only [extU] at hd); (try simp only [Nat.reduceAdd] at hd); (try simp only [Nat.reduceEqDiff] at hd); (try simp only [reduceIte] at hd); (try simp only [and_true] at hd); (try simp only [true_and] at hd); go_simp; exact rfl))) | ((first | ((with_reducible refine flow_pure0 (v := ?_) ?_ ?_ ?_ ?_); rotate_left 1; (focus (with_reducible rfl)); (focus rfl)) | ((with_reducible refine flow_pureg (v := ?_) (j := ?_) (b := ?_) ?_ ?_ ?_ ?_); rotate_left 3; (focus (with_reducible rfl)); (focus (intro u w1 hw hd; (try simp only [depH] at hd); (try simp only [ext] at hd); (try simp only [extU] at hd); (try simp only [Nat.reduceAdd] at hd); (try simp only [Nat.reduceEqDiff] at hd); (try simp only [reduceIte] at hd); (try simp only [and_true] at hd); (try simp only [true_and] at hd); simp [yielded, hd]; done)))); (focus (intro u w1 hw hd; (try simp only [depH] at hd); (try simp only [ext] at hd); (try simp only [extU] at hd); (try simp only [Nat.reduceAdd] at hd); (try simp only [Nat.reduceEqDiff] at hd); (try simp only [reduceIte] at hd); (try simp only [and_true] at hd); (try simp only [true_and] at hd); have hc' := hw.cell; first | (go_simp; exact rfl) | (go_simp; go_at_call 50; ((with_reducible refine (c1 _).mono ?_)); rintro e w'' ⟨rfl, hb⟩; refine ⟨?_, hb⟩; exact rfl) | (go_simp; go_at_call 29; ((with_reducible refine (c2 _).mono ?_)); rintro e w'' ⟨rfl, hb⟩; refine ⟨?_, hb⟩; exact rfl)))) | ((with_reducible refine flow_skipg (j := ?_) (b := ?_) ?_ ?_ ?_); rotate_left 2; (focus (with_reducible rfl)); (focus (intro u w1 hw hd; (try simp only [depH] at hd); (try simp only [ext] at hd); (try simp only [extU] at hd); (try simp only [Nat.reduceAdd] at hd); (try simp only [Nat.reduceEqDiff] at hd); (try simp only [reduceIte] at hd); (try simp only [and_true] at hd); (try simp only [true_and] at hd); simp [yielded, hd]; done))) | ((with_reducible refine flow_alloc (t := ?_) (zs := ?_) ?_ ?_ ?_ ?_); rotate_left 2; (focus (with_reducible rfl)); (focus rfl); (focus (intro u w1; go_simp; exact rfl)))))
  (try clear hc hf h); intro u w' h ha hdi; replace h := h.ins; (try simp only [World.size_alloc] at h); (try dsimp only at ha); (repeat rw [World.size_alloc] at ha); (try simp only [allH] at ha); (try simp only [ext] at ha); (try simp only [extU] at ha); (try simp only [Nat.reduceAdd] at ha); (try simp only [Nat.reduceEqDiff] at ha); (try simp only [reduceIte] at ha); (try simp only [and_true] at ha); (try simp only [true_and] at ha); have hc := h.cell; have hf := h.frozen
  (try obtain ha := ha); (try dsimp only);  simp only [ha]; clear ha hdi 
  have hy3 := HY2.out.below h.bel hg'
  obtain ⟨F1, F2, F3, F4, F5, _, e0, e1, e2, e3, e4, g0, g1, g2, g3, g4⟩ := VBx.cells hy3 (i := i) HI.out
  have H1 := Lib.hid (HS.out _ hy3)
  have H2 := Lib.hid ((gr_bel HG.out h.bel).trans (gr_put5 w' g i z))
  have hgl2 := hy3.lt
  clear hy3 hc hf h HY2 HG HS d0 d1 d2 d3 d4 o0 p0 x0 x1 x2 x3 x4
  go_wp2_with fail
  go_end0
  exact ⟨rfl, H1.out, H2.out⟩
/-- what the entries add to the elements of a product -/
def sumRow (qs : List Rat) : List (Nat × Nat × Rat) → Nat → Rat
  | [], _ => 0
  | x :: L, i => (if x.1 = i then x.2.2 * qs.getD x.2.1 0 else 0) + sumRow qs L i
def stepV (qs : List Rat) (ys : List Rat) (x : Nat × Nat × Rat) : List Rat := ys.set x.1 (ys.getD x.1 0 + x.2.2 * qs.getD x.2.1 0)
def foldV (qs : List Rat) (ys : List Rat) (L : List (Nat × Nat × Rat)) : List Rat := L.foldl (stepV qs) ys
theorem stepV_length (qs ys : List Rat) (x : Nat × Nat × Rat) : (stepV qs ys x).length = ys.length := by simp [stepV]
theorem foldV_length (qs : List Rat) : ∀ (L : List (Nat × Nat × Rat)) (ys : List Rat), (foldV qs ys L).length = ys.length
  | [], _ => rfl
  | x :: L, ys => by
    show (foldV qs (stepV qs ys x) L).length = _
    rw [foldV_length qs L, stepV_length]
theorem stepV_at (qs ys : List Rat) (x : Nat × Nat × Rat) (i : Nat) (hi : i < ys.length) : (stepV qs ys x).getD i 0 = ys.getD i 0 + if x.1 = i then x.2.2 * qs.getD x.2.1 0 else 0 := by
  unfold stepV
  simp only [List.getD_eq_getElem?_getD, List.getElem?_set]
  by_cases h : x.1 = i
  · subst h; rw [if_pos rfl, if_pos hi, if_pos rfl]; rfl
  · rw [if_neg h, if_neg h, Rat.add_zero]
theorem foldV_at (qs : List Rat) : ∀ (L : List (Nat × Nat × Rat)) (ys : List Rat) (i : Nat), i < ys.length → (foldV qs ys L).getD i 0 = ys.getD i 0 + sumRow qs L i
  | [], ys, i, _ => by simp [foldV, sumRow, Rat.add_zero]
  | x :: L, ys, i, hi => by
    show (foldV qs (stepV qs ys x) L).getD i 0 = _
    rw [foldV_at qs L _ i (by rw [stepV_length]; exact hi), stepV_at qs ys x i hi, sumRow, Rat.add_assoc]
/-- the product of a matrix and a vector -/
def appL (r c : Nat) (f : Nat → Nat → Rat) (qs : List Rat) : List Rat := (List.range r).map fun i => sumRow qs (items r c f) i
theorem foldV_all (r c : Nat) (f : Nat → Nat → Rat) (qs : List Rat) : foldV qs (List.replicate r 0) (items r c f) = appL r c f qs := by
  apply List.ext_getElem
  · rw [foldV_length]; simp [appL]
  · intro i h1 h2
    have hi : i < r := by rw [foldV_length] at h1; simpa using h1
    have := foldV_at qs (items r c f) (List.replicate r 0) i (by simpa using hi)
    rw [List.getD_eq_getElem?_getD, List.getElem?_eq_getElem h1] at this
    rw [show (foldV qs (List.replicate r 0) (items r c f))[i] = (some (foldV qs (List.replicate r 0) (items r c f))[i]).getD 0 from rfl, this]
    rw [List.getD_eq_getElem?_getD, List.getElem?_replicate, if_pos hi]
    simp [appL, Rat.zero_add]
theorem SzK_stepV {s j l : Nat} {qs ys : List Rat} {x : Nat × Nat × Rat} (hy : ∀ i, SzK s (ys.getD i 0)) (hx : SzK j x.2.2) (hq : ∀ k, SzK l (qs.getD k 0)) : ∀ i, SzK (s + (j + l) + 1) ((stepV qs ys x).getD i 0) := by
  intro i
  by_cases h : i < ys.length
  · rw [stepV_at qs ys x i h]
    split
    · exact (hy i).add (hx.mul (hq _))
    · rw [Rat.add_zero]; exact (hy i).mono (by omega)
  · rw [List.getD_eq_getElem?_getD, List.getElem?_eq_none (by rw [stepV_length]; omega)]
    exact SzK.zero.mono (by omega)
set_option maxRecDepth 100000 in
set_option maxHeartbeats 4000000 in
theorem apply_ok {j l : Nat} (w : World) (v vv : Value) (r c : Nat) (f : Nat → Nat → Rat) (qs : List Rat) (hS : SpM w v r c f) (hV : VecAt w vv qs) (hr : r ≤ 2048) (hc : c ≤ 2048) (hq : qs.length = c) (hz : ∀ i k, SzK j (f i k)) (hzq : ∀ k, SzK l (qs.getD k 0)) (hcap : r * c * (j + l + 1) + 1 < 17592186044416) :
    Calls Tryz.prog 20 #[v, vv] w fun e w' => ∃ g, e = .returned (.tuple #[.slice (some ⟨g, 0, none⟩) r r, .int .i64 0]) ∧ w.heap.size ≤ g ∧ VBx w' g (appL r c f qs) ∧ Below w.heap.size w w' := by
  have hgo := fun W (hb : Below w.heap.size w W) a cap (hl : LensAt W a [c]) => goes_any W v r c _ (hS.call hb).g (by rw [List.length_map, mrows_length]; omega) (fun i => by
    by_cases hi : i < r
    · have e : ((mrows r c f).map fun es => es.map cI).getD i [] = ((mrows r c f).getD i []).map cI := by
        simp only [List.getD_eq_getElem?_getD, List.getElem?_map, List.getElem?_eq_getElem (show i < (mrows r c f).length by rw [mrows_length]; exact hi)]; rfl
      rw [e, List.length_map]
      exact Nat.le_trans (mrows_row r c f i) (by omega)
    · rw [List.getD_eq_getElem?_getD, List.getElem?_eq_none (by rw [List.length_map, mrows_length]; omega)]; exact Nat.zero_le _) a cap [c] hl (by simp)
  have hg0 : goesS r c ((mrows r c f).map fun es => es.map cI) [c] = 0 := by
    unfold goesS
    rw [checkS_valid hr hc, if_neg (by decide), if_pos (by simp [hc])]
  rw [hg0] at hgo
  simp only [List.length_singleton] at hgo
  obtain ⟨a, cap, rfl⟩ := hS.shape
  obtain ⟨va, vc, rfl⟩ := hV.shape
  rw [hq] at hV ⊢
  have HS := Lib.hid hS
  have HV := Lib.hid hV
  have HQ := Lib.hid hq
  have HMK := Lib.hid (mk_vec r (by omega))
  obtain ⟨X, hX⟩ : ∃ X, X = w.heap.size := ⟨_, rfl⟩
  have HX := Lib.hid hX
  clear hS hV hq hg0
  go_enter Tryz.func20, Tryz.ntmps20
  go_wp2_with fail
  have bx := ((Bx.new_at w #[.int .i64 r, .int .i64 c, .slice a r cap] 63 hX).alloc (.cells #[.slice va c vc] 76)).alloc (.cells #[.slice va c vc] 76)
  have bp := (Bx.new_at (w.alloc (.cells #[.int .i64 r, .int .i64 c, .slice a r cap] 63)) #[.slice va c vc] 76 (n := X + 1) (by rw [World.size_alloc, hX])).alloc (.cells #[.slice va c vc] 76)
  have bl := Bx.new_at ((w.alloc (.cells #[.int .i64 r, .int .i64 c, .slice a r cap] 63)).alloc (.cells #[.slice va c vc] 76)) #[.slice va c vc] 76 (n := X + 1 + 1) (by rw [World.size_alloc, World.size_alloc, hX])
  have hin : In X w (((w.alloc (.cells #[.int .i64 r, .int .i64 c, .slice a r cap] 63)).alloc (.cells #[.slice va c vc] 76)).alloc (.cells #[.slice va c vc] 76)) := by rw [hX]; exact (((In.self w).alloc _).alloc _).alloc _
  rw [← hX]
  generalize ((w.alloc (.cells #[.int .i64 r, .int .i64 c, .slice a r cap] 63)).alloc (.cells #[.slice va c vc] 76)).alloc (.cells #[.slice va c vc] 76) = W1 at *
  ((with_reducible refine (hgo _ ?_ _ _ ?_).mono ?_))
  · rw [← hX]; exact hin.bel
  · intro i hi
    have h0 : i = 0 := by simpa using hi
    subst h0
    exact ⟨X + 1 + 1, 0, _, _, rfl, bl.lt, bl.c0⟩
  rintro e w2 ⟨rfl, hb2⟩
  have bx2 := bx.call hb2
  have bp2 := bp.call hb2
  have hin2 := hin.call hb2
  have hbp := bp2.lt
  have x0 := bx2.c0
  have x1 := bx2.c1
  have x2 := bx2.c2
  have p0 := bp2.c0
  have hbx := bx2.lt
  have hmk := HMK.out w2
  clear hb2 bx bp bl hin hgo hX
  go_wp2_with fail
  obtain ⟨g, hg⟩ : ∃ g, g = w2.heap.size := ⟨_, rfl⟩
  have bg := (Bx.new_at w2 (fcl (List.replicate r 0)).toArray 56 hg).alloc (.cells #[.slice (some ⟨w2.heap.size, 0, none⟩) r r] 76)
  have bo := Bx.new_at (w2.alloc (.cells (fcl (List.replicate r 0)).toArray 56)) #[.slice (some ⟨w2.heap.size, 0, none⟩) r r] 76 (n := g + 1) (by rw [World.size_alloc, hg])
  have bp3 := (bp2.alloc (.cells (fcl (List.replicate r 0)).toArray 56)).alloc (.cells #[.slice (some ⟨w2.heap.size, 0, none⟩) r r] 76)
  have hin3 := (hin2.alloc (.cells (fcl (List.replicate r 0)).toArray 56)).alloc (.cells #[.slice (some ⟨w2.heap.size, 0, none⟩) r r] 76)
  have hpg : X + 1 < g := by rw [hg]; exact hbp
  rw [← hg] at bg bo bp3 hin3 ⊢
  clear hmk hg x0 x1 x2 p0 hbx hbp bx2 bp2 hin2
  generalize (w2.alloc (.cells (fcl (List.replicate r 0)).toArray 56)).alloc (.cells #[.slice (some ⟨g, 0, none⟩) r r] 76) = W3 at *
  have hin4 : In w.heap.size w W3 := by rw [← HX.out]; exact hin3
  obtain ⟨T, hT⟩ : ∃ T, T = (items r c f).length := ⟨_, rfl⟩
  have hTr : T ≤ r * c := by rw [hT]; exact items_length r c f
  have hTb : T * (j + l + 1) ≤ r * c * (j + l + 1) := Nat.mul_le_mul_right _ hTr
  have he := each_any (fun t W => ∃ ys, VBx W g ys ∧ ys.length = r ∧ In w.heap.size w W ∧ Bx W (g + 1) 76 [.slice (some ⟨g, 0, none⟩) r r] ∧ Bx W (X + 1) 76 [.slice va c vc] ∧ (∀ x ∈ t, x ∈ items r c f) ∧ t.length ≤ T ∧ (∀ i, SzK (1 + (T - t.length) * (j + l + 1)) (ys.getD i 0)) ∧ foldV qs ys t = appL r c f qs)
    w W3 (.agg #[.int .i64 r, .int .i64 c, .slice a r cap]) r c (mrows r c f) 49 #[.pointer (some ⟨g + 1, 0, none⟩), .pointer (some ⟨X + 1, 0, none⟩)] (enters_of Tryz.func49 (by kernel_rfl) rfl) HS.out (fun t W h => by obtain ⟨_, _, _, h, _⟩ := h; exact h)
    (fun t W W' h hb => by obtain ⟨ys, h1, h2, h3, h4, h5, h6⟩ := h; exact ⟨ys, h1.call hb, h2, h3.call hb, h4.call hb, h5.call hb, h6⟩)
    (fun i k x t W h => by
      obtain ⟨ys, h1, h2, h3, h4, h5, h6, h7, h8, h9⟩ := h
      have hx := mem_items.1 (h6 _ (.head _))
      rw [List.length_cons] at h7 h8
      have hmul : (T - (t.length + 1)) * (j + l + 1) + (j + l + 1) ≤ T * (j + l + 1) := by
        rw [← Nat.succ_mul]; exact Nat.mul_le_mul_right _ (by omega)
      have hvW := HV.out.below (Nat.le_refl _) h3.bel
      refine (app1_any (s := 1 + (T - (t.length + 1)) * (j + l + 1)) (j := j) (l := l) W (g + 1) (X + 1) g (.slice va c vc) ys qs i k x (by rw [h2]; exact h4) h5 hvW h1 (by rw [h2]; exact hx.1) (by rw [HQ.out]; exact hx.2.1) (h8 i) (by rw [hx.2.2.2]; exact hz i k) (hzq k) (by omega)).mono ?_
      rintro e w' ⟨rfl, h10, h11⟩
      refine ⟨rfl, _, h10, by rw [List.length_set]; exact h2, ⟨h3.bel.grown h11 h3.siz (fun k h => by cases h; rw [← HX.out]; omega), Nat.le_trans h3.siz h11.size⟩, h4.grown h11 (by simp), h5.grown h11 (by simp; omega), fun y hy => h6 y (List.mem_cons_of_mem _ hy), by omega, ?_, h9⟩
      intro i'
      refine (SzK_stepV (x := (i, k, x)) h8 (by rw [hx.2.2.2]; exact hz i k) hzq i').mono ?_
      rw [show T - t.length = (T - (t.length + 1)) + 1 by omega, Nat.succ_mul]; omega)
    (by rw [mrows_length]; omega) (fun i => Nat.le_trans (mrows_row r c f i) (by omega))
    ⟨_, bg, by simp, hin4, bo, bp3, fun x hx => hx, by rw [hT]; exact Nat.le_refl _, fun i => by
      have e : (List.replicate r (0 : Rat)).getD i 0 = 0 := by
        rw [List.getD_eq_getElem?_getD, List.getElem?_replicate]; split <;> rfl
      rw [e]; exact SzK.zero.mono (by omega), foldV_all r c f qs⟩
  ((with_reducible refine he.mono ?_))
  rintro e w4 ⟨rfl, ys, h1, h2, h3, h4, h5, _, _, _, h9⟩
  have h9' : ys = appL r c f qs := h9
  subst h9'
  have o0 := h4.c0
  have hol := h4.lt
  clear he bg bo bp3 hin3 hin4 h5
  go_wp2_with fail
  go_ret2
  exact ⟨g, rfl, by rw [← HX.out]; omega, h1, h3.bel⟩
end Gus
end
