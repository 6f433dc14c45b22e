/- Proved here: parts of the proof: Reb Ret Rei Bda. Conditions: those that each theorem states. -/
import Derived.Test.YtakblfhmllgepaaGreatDoorRfpQ
import Derived.Test.YtakblfhmllgepaaGreatDoorShelfUQ
import Derived.Test.YtakblfhmllgepaaGreatDoorItmQ
import Derived.Test.YtakblfhmllgepaaGreatDoorRdwQ
import Derived.Test.YtakblfhmllgepaaGreatDoorRdjQ
import Derived.Test.YtakblfhmllgepaaGreatDoorRduQ
import Derived.Test.YtakblfhmllgepaaGreatDoorRefQ
import Derived.Test.YtakblfhmllgepaaGreatDoorWrkQ
section
/- The reference's texts: gussetref03.Text. -/
namespace Gus
open Go Go.RowKit Go.Proofs
theorem NVr.of {w : World} {v : Value} {n : Nat} (h : NV w v n) : NVr n v w := h
set_option maxRecDepth 100000 in
set_option maxHeartbeats 4000000 in
theorem rftext_any (w : World) (v : Value) (q : Rat) (h : FV w v q) (hs1 : (D.wd q.num.natAbs).length ≤ 1099511627776) (hs2 : (D.wd q.den).length ≤ 1099511627776) (hl : (natT q.num.natAbs).length ≤ 549755813888) (hl2 : (natT q.den).length ≤ 549755813888) :
    Calls Tryz.prog 41 #[v] w fun e w' => e = .returned (strV (ratT q)) ∧ Below w.heap.size w w' := by
  have hF := h
  obtain ⟨a1, l1, k1, u2, rfl, hu1, hu2⟩ := h
  obtain ⟨a2, k2, rfl, hr2⟩ := id hu2
  clear hr2
  have hz : ZV w (.agg #[.bool (decide (q.num < 0)), .slice a1 l1 k1]) q.num := ⟨_, rfl, hu1⟩
  have hli := intT_length q.num
  have cz := fun W (hb : Below w.heap.size w W) => rztext_any W _ _ (hz.call hb) hs1 (by omega)
  unfold ratT
  by_cases hq : q.den = 1
  · have e0 : (D.wd (q.den - 1)).length = 0 := by rw [hq]; rfl
    rw [if_pos hq, e0]
    have c1 : ∀ o, Calls Tryz.prog 76 #[.agg #[.bool (decide (q.num < 0)), .slice a1 l1 k1]] (w.alloc o) fun e w' => e = .returned (strV (intT q.num)) ∧ Below (w.alloc o).heap.size (w.alloc o) w' := fun o => cz _ ((Below.refl _ _).alloc (Nat.le_refl _) o)
    generalize intT q.num = l at *
    generalize decide (q.num < 0) = b1 at *
    clear hF hu1 hu2 hz cz hq e0 hli hl hl2 hs1 hs2
    go_enter Tryz.func41, Tryz.ntmps41
    go_wp2_with fail
    (((with_reducible refine (c1 _).mono ?_)); rintro e w' ⟨rfl, hb⟩; have h := (In.self _).call hb; (try simp only [World.size_alloc] at h); (try simp only [World.size_setCell] at h); clear hb; have hc := h.cell; have hf := h.frozen)
    go_wp2_with fail
    go_ret
    exact ⟨rfl, by (refine In.bel ?_; (repeat (first | (refine In.setCell ?_ (by first | omega | (simp; done) | (simp; omega)) _) | (refine In.alloc ?_ _) | (refine In.drew ?_))); (first | exact In.self _ | (refine In.out h ?_ (by first | omega | (simp; done) | (simp; omega)); (repeat (first | (refine In.setCell ?_ (by first | omega | (simp; done) | (simp; omega)) _) | (refine In.alloc ?_ _) | (refine In.drew ?_))); exact In.self _)))⟩
  · have hd : q.den - 1 ≠ 0 := by have := q.den_pos; omega
    have hk : 0 < (D.wd (q.den - 1)).length := by
      refine Nat.pos_of_ne_zero fun h => hd ?_
      have := D.wd_val (q.den - 1)
      rw [List.length_eq_zero_iff.1 h] at this
      exact this.symm
    have cd := fun W (hb : Below w.heap.size w W) => (rfden_any W _ q (hF.call hb) (Nat.le_trans (D.wd_mono (Nat.sub_le _ _)) hs2)).mono fun _ _ => RNat.rel
    have ct := fun W u (hu : NV W u q.den) => (rtext_any W u q.den hu hs2).mono fun (e : Ending) (w' : World) ⟨h1, h2⟩ => (⟨h1, h2 ▸ Below.refl _ _⟩ : e = Ending.returned (strV (natT q.den)) ∧ Below W.heap.size W w')
    rw [if_neg hq]
    have hlI2 : (intT q.num).length ≤ 549755813889 := by omega
    generalize intT q.num = li at *
    generalize natT q.den = ld at *
    obtain ⟨n2, hn2⟩ : ∃ n, n = (D.wd (q.den - 1)).length := ⟨_, rfl⟩
    rw [← hn2] at hk cd ⊢
    have hkI : ((n2 : Int) == 0) = false := by rw [beq_eq_false_iff_ne]; omega
    have hkI2 : ¬ (n2 : Int) = 0 := by omega
    have e1 : ¬ 9223372036854775807 < li.length + 1 := by omega
    have e2 : ¬ 9223372036854775807 < li.length + 1 + ld.length := by omega
    generalize decide (q.num < 0) = b1 at *
    obtain ⟨d, hd9⟩ : ∃ d, d = q.den := ⟨_, rfl⟩
    rw [← hd9] at cd ct
    clear hF hu1 hu2 hz hq hd hli hl hl2 hs1 hs2 hn2 hd9
    go_enter Tryz.func41, Tryz.ntmps41
    go_upto_region 1 with fail
    ((obtain ⟨X, hXX⟩ : ∃ z, z = w.heap.size := ⟨_, rfl⟩); (have bV0 := (Bx.new_at w #[.bool b1, .slice a1 l1 k1, .slice a2 n2 k2] 45 (n := X) (by simp [hXX]))); (have hV := ((In.self w).alloc (.cells #[.bool b1, .slice a1 l1 k1, .slice a2 n2 k2] 45))); (rw [← hXX] at hV ⊢); (have HX := Lib.hid hXX); (clear hXX); (generalize w.alloc (.cells #[.bool b1, .slice a1 l1 k1, .slice a2 n2 k2] 45) = V at *))
    rw [HX.out] at hV
    skip
    ((have p0 := bV0.c0); (have p1 := bV0.c1); (have p2 := bV0.c2); (have pl := bV0.lt))
    go_wp2_with fail
    have h := In.self V; have hc := h.cell; have hf := h.frozen; refine wp_region_flow 8 (by kernel_rfl) (by kernel_rfl) (fun _ _ d _ _ h => by cases d <;> exact h) ?_; simp only [List.take_succ_cons, List.take_zero, List.drop_succ_cons, List.drop_zero]; simp only [putAll, Act.put, List.setIfInBounds_toArray, List.set]; (try simp only [Nat.reduceAdd]); (try simp only [Nat.zero_add]); (repeat (first | ((with_reducible refine flow_float (v := ?_) ?_ ?_ ?_); rotate_left 1; (focus (with_reducible rfl)); (focus (intro u w1 hw hd w2; (try simp only [depH] at hd); (try simp only [ext] at hd); (try simp only [extU] at hd); (try simp only [Nat.reduceAdd] at hd); (try simp only [Nat.reduceEqDiff] at hd); (try simp only [reduceIte] at hd); (try simp only [and_true] at hd); (try simp only [true_and] at hd); go_simp; exact rfl))) | ((first | ((with_reducible refine flow_pure0 (v := ?_) ?_ ?_ ?_ ?_); rotate_left 1; (focus (with_reducible rfl)); (focus rfl)) | ((with_reducible refine flow_pureg (v := ?_) (j := ?_) (b := ?_) ?_ ?_ ?_ ?_); rotate_left 3; (focus (with_reducible rfl)); (focus (intro u w1 hw hd; (try simp only [depH] at hd); (try simp only [ext] at hd); (try simp only [extU] at hd); (try simp only [Nat.reduceAdd] at hd); (try simp only [Nat.reduceEqDiff] at hd); (try simp only [reduceIte] at hd); (try simp only [and_true] at hd); (try simp only [true_and] at hd); simp [yielded, hd]; done)))); (focus (intro u w1 hw hd; (try simp only [depH] at hd); (try simp only [ext] at hd); (try simp only [extU] at hd); (try simp only [Nat.reduceAdd] at hd); (try simp only [Nat.reduceEqDiff] at hd); (try simp only [reduceIte] at hd); (try simp only [and_true] at hd); (try simp only [true_and] at hd); have hc' := hw.cell; first | (go_simp; exact rfl) | (go_simp; go_at_call 76; ((with_reducible refine (cz _ (hV.call hw.ins.bel).bel).mono ?_)); rintro e w'' ⟨rfl, hb⟩; refine ⟨?_, hb⟩; exact rfl)))) | ((with_reducible refine flow_skipg (j := ?_) (b := ?_) ?_ ?_ ?_); rotate_left 2; (focus (with_reducible rfl)); (focus (intro u w1 hw hd; (try simp only [depH] at hd); (try simp only [ext] at hd); (try simp only [extU] at hd); (try simp only [Nat.reduceAdd] at hd); (try simp only [Nat.reduceEqDiff] at hd); (try simp only [reduceIte] at hd); (try simp only [and_true] at hd); (try simp only [true_and] at hd); simp [yielded, hd]; done))) | ((with_reducible refine flow_alloc (t := ?_) (zs := ?_) ?_ ?_ ?_ ?_); rotate_left 2; (focus (with_reducible rfl)); (focus rfl); (focus (intro u w1; go_simp; exact rfl)))))
    (with_reducible refine flow_rel (Vi := NVr d) false ?_ ?_ ?_ ?_ ?_ ?_); (focus rfl); (focus rfl); (focus exact stable_nv _); (focus exact placed_false _); (focus (intro u w1 hw hd; (try simp only [depH] at hd); (try simp only [ext] at hd); (try simp only [extU] at hd); (try simp only [Nat.reduceAdd] at hd); (try simp only [Nat.reduceEqDiff] at hd); (try simp only [reduceIte] at hd); (try simp only [and_true] at hd); (try simp only [true_and] at hd); have hc' := hw.cell; go_simp; (try simp only [okUpon]); go_at_call 58; ((with_reducible refine (cd _ (hV.call hw.ins.bel).bel).mono ?_)); rintro e w'' ⟨⟨v, rfl, hv⟩, hb⟩; exact ⟨v, rfl, ⟨hv, fun h => by cases h⟩, hb⟩))
    (with_reducible refine flow_pure0 (v := strV ld) ?_ ?_ ?_ ?_); (focus (with_reducible rfl)); (focus rfl); (focus (intro u w1 hw hd; (try simp only [depH] at hd); (try simp only [ext] at hd); (try simp only [extU] at hd); (try simp only [Nat.reduceAdd] at hd); (try simp only [Nat.reduceEqDiff] at hd); (try simp only [reduceIte] at hd); (try simp only [and_true] at hd); (try simp only [true_and] at hd); obtain ⟨hd1, hd2⟩ := hd; have hc' := hw.cell; go_simp; go_at_call 77; ((with_reducible refine (ct _ _ hd2.v).mono ?_)); rintro e w'' ⟨rfl, hb⟩; exact ⟨rfl, hb⟩))
    (repeat (first | ((with_reducible refine flow_float (v := ?_) ?_ ?_ ?_); rotate_left 1; (focus (with_reducible rfl)); (focus (intro u w1 hw hd w2; (try simp only [depH] at hd); (try simp only [ext] at hd); (try simp only [extU] at hd); (try simp only [Nat.reduceAdd] at hd); (try simp only [Nat.reduceEqDiff] at hd); (try simp only [reduceIte] at hd); (try simp only [and_true] at hd); (try simp only [true_and] at hd); go_simp; exact rfl))) | ((first | ((with_reducible refine flow_pure0 (v := ?_) ?_ ?_ ?_ ?_); rotate_left 1; (focus (with_reducible rfl)); (focus rfl)) | ((with_reducible refine flow_pureg (v := ?_) (j := ?_) (b := ?_) ?_ ?_ ?_ ?_); rotate_left 3; (focus (with_reducible rfl)); (focus (intro u w1 hw hd; (try simp only [depH] at hd); (try simp only [ext] at hd); (try simp only [extU] at hd); (try simp only [Nat.reduceAdd] at hd); (try simp only [Nat.reduceEqDiff] at hd); (try simp only [reduceIte] at hd); (try simp only [and_true] at hd); (try simp only [true_and] at hd); simp [yielded, hd]; done)))); (focus (intro u w1 hw hd; (try simp only [depH] at hd); (try simp only [ext] at hd); (try simp only [extU] at hd); (try simp only [Nat.reduceAdd] at hd); (try simp only [Nat.reduceEqDiff] at hd); (try simp only [reduceIte] at hd); (try simp only [and_true] at hd); (try simp only [true_and] at hd); have hc' := hw.cell; go_simp; exact rfl))) | ((with_reducible refine flow_skipg (j := ?_) (b := ?_) ?_ ?_ ?_); rotate_left 2; (focus (with_reducible rfl)); (focus (intro u w1 hw hd; (try simp only [depH] at hd); (try simp only [ext] at hd); (try simp only [extU] at hd); (try simp only [Nat.reduceAdd] at hd); (try simp only [Nat.reduceEqDiff] at hd); (try simp only [reduceIte] at hd); (try simp only [and_true] at hd); (try simp only [true_and] at hd); simp [yielded, hd]; done))) | ((with_reducible refine flow_alloc (t := ?_) (zs := ?_) ?_ ?_ ?_ ?_); rotate_left 2; (focus (with_reducible rfl)); (focus rfl); (focus (intro u w1; go_simp; exact rfl)))))
    (try clear hc hf h); intro u w' h ha hdi; replace h := h.ins; (try simp only [World.size_alloc] at h); (try dsimp only at ha); (repeat rw [World.size_alloc] at ha); (try simp only [allH] at ha); (try simp only [ext] at ha); (try simp only [extU] at ha); (try simp only [Nat.reduceAdd] at ha); (try simp only [Nat.reduceEqDiff] at ha); (try simp only [reduceIte] at ha); (try simp only [and_true] at ha); (try simp only [true_and] at ha); have hc := h.cell; have hf := h.frozen; have hb := h.bel; clear hdi hc hf; clear p0 p1 p2 pl cz cd ct; replace hV := hV.call hb; replace bV0 := bV0.call hb; clear hb h; rename World => W1
    obtain ⟨⟨⟨ha, hnv⟩, h6⟩, h7⟩ := ha
    simp only [ha, h6, h7]
    clear ha hnv h6 h7 bV0
    go_wp2_with fail
    have hs : Value.string ({ data := li.toArray } ++ { data := #[47] } ++ { data := ld.toArray }) = strV (li ++ 47 :: ld) := congrArg Value.string (by rw [show (⟨#[47]⟩ : ByteArray) = ⟨[47].toArray⟩ from rfl, bcat, bcat, List.append_assoc]; rfl)
    rw [hs]
    exact bodyPost_ret (v := strV (li ++ 47 :: ld)) (by simp [results, Tryz.results41, go_sem]) rfl ⟨rfl, hV.bel⟩
end Gus
end
section
/- The text of a matrix, as it grows: plain. -/
namespace Gus
open Go Go.RowKit Go.Proofs
theorem rowOf_next (g : Nat → Rat) (k : Nat) : rowOf g (k + 1) = rowOf g k ++ if g k = 0 then [] else [(k, g k)] := by
  unfold rowOf
  rw [List.range_succ, List.filter_append, List.map_append]
  congr 1
  by_cases h : g k = 0
  · rw [if_pos h, List.filter_cons, if_neg (by simp [h])]; rfl
  · rw [if_neg h, List.filter_cons, if_pos (by simpa using h)]; rfl
theorem items_next (i c : Nat) (f : Nat → Nat → Rat) : items (i + 1) c f = items i c f ++ (rowOf (f i) c).map fun e => (i, e.1, e.2) := by
  unfold items
  rw [mrows_succ, itemsF_append, mrows_length, Nat.zero_add]
  simp [itemsF]
/-- the text behind i rows and k elements of the next -/
def txI (r c : Nat) (f : Nat → Nat → Rat) (i k : Nat) : List UInt8 := natT r ++ 32 :: (natT c ++ 58 :: (items i c f ++ (rowOf (f i) k).map fun e => (i, e.1, e.2)).flatMap itemT)
theorem txI_start (r c : Nat) (f : Nat → Nat → Rat) : txI r c f 0 0 = natT r ++ 32 :: (natT c ++ [58]) := by
  unfold txI items; simp [itemsF, mrows, rowsL, rowOf]
theorem txI_row (r c : Nat) (f : Nat → Nat → Rat) (i : Nat) : txI r c f i c = txI r c f (i + 1) 0 := by
  unfold txI
  rw [items_next]
  simp [rowOf]
theorem txI_zero {r c : Nat} {f : Nat → Nat → Rat} {i k : Nat} (h : f i k = 0) : txI r c f i (k + 1) = txI r c f i k := by
  unfold txI
  rw [rowOf_next, if_pos h, List.append_nil]
theorem txI_put {r c : Nat} {f : Nat → Nat → Rat} {i k : Nat} (h : f i k ≠ 0) : txI r c f i (k + 1) = txI r c f i k ++ itemT (i, k, f i k) := by
  unfold txI
  rw [rowOf_next, if_neg h]
  simp
theorem txI_end (r c : Nat) (f : Nat → Nat → Rat) : txI r c f r 0 = matT r c f := by
  unfold txI matT
  simp [rowOf]
theorem flatMap_len {α : Type} (L : List α) (g : α → List UInt8) {m : Nat} (h : ∀ x ∈ L, (g x).length ≤ m) : (L.flatMap g).length ≤ L.length * m := by
  induction L with
  | nil => simp
  | cons x L ih =>
    have h1 := h x (.head _)
    have h2 := ih fun y hy => h y (List.mem_cons_of_mem _ hy)
    rw [List.flatMap_cons, List.length_append, List.length_cons, Nat.add_mul, Nat.one_mul]; omega
theorem rowOf_len (g : Nat → Rat) (k : Nat) : (rowOf g k).length ≤ k := by
  unfold rowOf
  rw [List.length_map]
  exact Nat.le_trans (List.length_filter_le _ _) (by simp)
theorem txI_len {r c m : Nat} {f : Nat → Nat → Rat} {i k : Nat} (hr : r < 100) (hc : c < 100) (hi : i < 100) (hk : k ≤ c) (hx : ∀ i k, (ratT (f i k)).length ≤ m) : (txI r c f i k).length ≤ 10 + 10100 * (m + 8) := by
  have h1 := natT_small hr
  have h2 := natT_small hc
  have h3 := flatMap_len (items i c f ++ (rowOf (f i) k).map fun e => (i, e.1, e.2)) itemT (m := m + 8) fun x hx' => by
    obtain ⟨a, b, q⟩ := x
    rcases List.mem_append.1 hx' with h | h
    · have := mem_items.1 h
      rw [this.2.2.2]
      exact itemT_length (by omega) (by omega) (hx _ _)
    · obtain ⟨⟨e1, e2⟩, he, h4⟩ := List.mem_map.1 h
      simp only [Prod.mk.injEq] at h4
      obtain ⟨rfl, rfl, rfl⟩ := h4
      have := mem_rowOf.1 he
      rw [this.2.2]
      exact itemT_length (by omega) (by omega) (hx _ _)
  have h4 : (items i c f ++ (rowOf (f i) k).map fun e => (i, e.1, e.2)).length ≤ 10100 := by
    rw [List.length_append, List.length_map]
    have := items_length i c f
    have := rowOf_len (f i) k
    have : i * c ≤ 100 * 100 := Nat.mul_le_mul (by omega) (by omega)
    omega
  have h5 := Nat.mul_le_mul_right (m + 8) h4
  unfold txI
  simp only [List.length_append, List.length_cons]
  omega
end Gus
end
section
/- The reference's texts: gussetref16.Text. -/
namespace Gus
open Go Go.RowKit Go.Proofs
/-- sizes under which the reference writes a fraction -/
structure RTx (m : Nat) (q : Rat) : Prop where
  a : (D.wd q.num.natAbs).length ≤ 1099511627776
  b : (D.wd q.den).length ≤ 1099511627776
  c : (natT q.num.natAbs).length ≤ 549755813888
  d : (natT q.den).length ≤ 549755813888
  e : (ratT q).length ≤ m
set_option maxRecDepth 100000 in
set_option maxHeartbeats 8000000 in
theorem rmtext16_any (w : World) (v : Value) (r c m : Nat) (f : Nat → Nat → Rat) (hM : MatR w v r c f) (hr : r < 100) (hc : c < 100) (hm : m ≤ 549755813888) (hx : ∀ i k, RTx m (f i k)) :
    Calls Tryz.prog 15 #[v] w fun e w' => e = .returned (strV (matT r c f)) ∧ Below w.heap.size w w' := by
  obtain ⟨ra, rk, rfl⟩ := hM.shape
  have dg := fun W n (hn : n ≤ 2000) => (rdigits_any W n (by omega)).mono fun (e : Ending) (w' : World) ⟨h1, h2⟩ => (⟨h1, h2 ▸ Below.refl _ _⟩ : e = Ending.returned (strV (natT n)) ∧ Below W.heap.size W w')
  have HM := Lib.hid hM
  have HF := Lib.hid hx
  have HLEN := Lib.hid (show ∀ i k, i < 100 → k ≤ c → (txI r c f i k).length ≤ 10 + 10100 * (m + 8) from fun i k hi hk => txI_len hr hc hi hk fun i k => (hx i k).e)
  have HST := Lib.hid (show ∀ i k, f i k ≠ 0 → ({ data := (txI r c f i k).toArray } ++ { data := #[32] } ++ { data := (natT i).toArray } ++ { data := #[32] } ++ { data := (natT k).toArray } ++ { data := #[32] } ++ { data := (ratT (f i k)).toArray } ++ { data := #[59] } : ByteArray) = ⟨(txI r c f i (k + 1)).toArray⟩ from fun i k hz => by
    rw [txI_put hz, itemT, show (⟨#[32]⟩ : ByteArray) = ⟨[32].toArray⟩ from rfl, show (⟨#[59]⟩ : ByteArray) = ⟨[59].toArray⟩ from rfl]
    simp only [bcat]
    simp)
  have HS0 := Lib.hid (show ({ data := (natT r).toArray } ++ { data := #[32] } ++ { data := (natT c).toArray } ++ { data := #[58] } : ByteArray) = ⟨(txI r c f 0 0).toArray⟩ from by
    rw [txI_start, show (⟨#[32]⟩ : ByteArray) = ⟨[32].toArray⟩ from rfl, show (⟨#[58]⟩ : ByteArray) = ⟨[58].toArray⟩ from rfl]
    simp only [bcat]
    simp)
  have hlr := natT_small hr
  have hlc := natT_small hc
  clear hM hx
  go_enter Tryz.func15, Tryz.ntmps15
  go_upto_region 1 with fail
  ((obtain ⟨X, hXX⟩ : ∃ z, z = w.heap.size := ⟨_, rfl⟩); (have bV0 := (Bx.new_at w #[.int .i64 c, .slice ra r rk] 30 (n := X) (by simp [hXX]))); (have hV := ((In.self w).alloc (.cells #[.int .i64 c, .slice ra r rk] 30))); (rw [← hXX] at hV ⊢); (have HX := Lib.hid hXX); (clear hXX); (generalize w.alloc (.cells #[.int .i64 c, .slice ra r rk] 30) = V at *))
  rw [HX.out] at hV
  skip
  ((have p0 := bV0.c0); (have p1 := bV0.c1); (have pl := bV0.lt))
  have e1 : ¬ 9223372036854775807 < (natT r).length + 1 := by omega
  have e2 : ¬ 9223372036854775807 < (natT r).length + 1 + (natT c).length := by omega
  have e3 : ¬ 9223372036854775807 < (natT r).length + 1 + (natT c).length + 1 := by omega
  have h := In.self V; have hc := h.cell; have hf := h.frozen; refine wp_region_flow 10 (by kernel_rfl) (by kernel_rfl) (fun _ _ d _ _ h => by cases d <;> exact h) ?_; simp only [List.take_succ_cons, List.take_zero, List.drop_succ_cons, List.drop_zero]; simp only [putAll, Act.put, List.setIfInBounds_toArray, List.set]; (try simp only [Nat.reduceAdd]); (try simp only [Nat.zero_add]); (repeat (first | ((with_reducible refine flow_float (v := ?_) ?_ ?_ ?_); rotate_left 1; (focus (with_reducible rfl)); (focus (intro u w1 hw hd w2; (try simp only [depH] at hd); (try simp only [ext] at hd); (try simp only [extU] at hd); (try simp only [Nat.reduceAdd] at hd); (try simp only [Nat.reduceEqDiff] at hd); (try simp only [reduceIte] at hd); (try simp only [and_true] at hd); (try simp only [true_and] at hd); go_simp; exact rfl))) | ((first | ((with_reducible refine flow_pure0 (v := ?_) ?_ ?_ ?_ ?_); rotate_left 1; (focus (with_reducible rfl)); (focus rfl)) | ((with_reducible refine flow_pureg (v := ?_) (j := ?_) (b := ?_) ?_ ?_ ?_ ?_); rotate_left 3; (focus (with_reducible rfl)); (focus (intro u w1 hw hd; (try simp only [depH] at hd); (try simp only [ext] at hd); (try simp only [extU] at hd); (try simp only [Nat.reduceAdd] at hd); (try simp only [Nat.reduceEqDiff] at hd); (try simp only [reduceIte] at hd); (try simp only [and_true] at hd); (try simp only [true_and] at hd); simp [yielded, hd]; done)))); (focus (intro u w1 hw hd; (try simp only [depH] at hd); (try simp only [ext] at hd); (try simp only [extU] at hd); (try simp only [Nat.reduceAdd] at hd); (try simp only [Nat.reduceEqDiff] at hd); (try simp only [reduceIte] at hd); (try simp only [and_true] at hd); (try simp only [true_and] at hd); have hc' := hw.cell; first | (go_simp; exact rfl) | (go_simp; go_at_call 39; ((with_reducible refine (dg _ r (by omega)).mono ?_)); rintro e w'' ⟨rfl, hb⟩; refine ⟨?_, hb⟩; exact rfl) | (go_simp; go_at_call 39; ((with_reducible refine (dg _ c (by omega)).mono ?_)); rintro e w'' ⟨rfl, hb⟩; refine ⟨?_, hb⟩; exact rfl)))) | ((with_reducible refine flow_skipg (j := ?_) (b := ?_) ?_ ?_ ?_); rotate_left 2; (focus (with_reducible rfl)); (focus (intro u w1 hw hd; (try simp only [depH] at hd); (try simp only [ext] at hd); (try simp only [extU] at hd); (try simp only [Nat.reduceAdd] at hd); (try simp only [Nat.reduceEqDiff] at hd); (try simp only [reduceIte] at hd); (try simp only [and_true] at hd); (try simp only [true_and] at hd); simp [yielded, hd]; done))) | ((with_reducible refine flow_alloc (t := ?_) (zs := ?_) ?_ ?_ ?_ ?_); rotate_left 2; (focus (with_reducible rfl)); (focus rfl); (focus (intro u w1; go_simp; exact rfl)))))
  skip
  (try clear hc hf h); intro u w' h ha hdi; replace h := h.ins; (try simp only [World.size_alloc] at h); (try dsimp only at ha); (repeat rw [World.size_alloc] at ha); (try simp only [allH] at ha); (try simp only [ext] at ha); (try simp only [extU] at ha); (try simp only [Nat.reduceAdd] at ha); (try simp only [Nat.reduceEqDiff] at ha); (try simp only [reduceIte] at ha); (try simp only [and_true] at ha); (try simp only [true_and] at ha); have hc := h.cell; have hf := h.frozen; have hb := h.bel; clear hdi hc hf; clear p0 p1 pl e1 e2 e3; replace hV := hV.call hb; replace bV0 := bV0.call hb; clear hb h; rename World => W1
  simp only [ha]
  clear ha
  go_wp2_with fail
  rw [HS0.out]
  clear HS0
  go_loopw [3, 4] (fun v3 v4 wr => ∃ i : Nat, i ≤ r ∧ v3 = strV (txI r c f i 0) ∧ v4 = .int .i64 i ∧ In w.heap.size w wr ∧ Bx wr X 30 [.int .i64 c, .slice ra r rk]) (fun _ v4 _ => r - (RowKit.intOf v4).toNat)
  case atStart => exact ⟨0, Nat.zero_le _, rfl, rfl, hV, bV0⟩
  case round =>
    rename World => wo
    clear hV bV0
    obtain ⟨i, hi, rfl, rfl, hin, bX⟩ := hrel
    by_cases hir : i < r
    · have hirI : (i : Int) < r := by omega
      have hi0n : (0 : Int) ≤ i := by omega
      have hiw : IntKind.i64.wrap ((i : Int) + 1) = ((i + 1 : Nat) : Int) := IntWalk.i64_in _ (by omega)
      have x0 := bX.c0
      have x1 := bX.c1
      have xl := bX.lt
      go_wp2_with fail
      clear x0 x1 xl
      go_loopw [3, 5] (fun v3 v5 wq => ∃ k : Nat, k ≤ c ∧ v3 = strV (txI r c f i k) ∧ v5 = .int .i64 k ∧ In w.heap.size w wq ∧ Bx wq X 30 [.int .i64 c, .slice ra r rk]) (fun _ v5 _ => c - (RowKit.intOf v5).toNat)
      case atStart => exact ⟨0, Nat.zero_le _, rfl, rfl, hin, bX⟩
      case round =>
        rename World => wq
        clear hin bX
        obtain ⟨k, hk, rfl, rfl, hin, bX⟩ := hrel
        have x0 := bX.c0
        have x1 := bX.c1
        have xl := bX.lt
        by_cases hkc : k < c
        · have hkI : (k : Int) < c := by omega
          have hk0n : (0 : Int) ≤ k := by omega
          have hkw : IntKind.i64.wrap ((k : Int) + 1) = ((k + 1 : Nat) : Int) := IntWalk.i64_in _ (by omega)
          obtain ⟨b', off', rx, rfl, hrb, hcell, hrow⟩ := (HM.out.call hin.bel).at hir
          obtain ⟨cb, coff, ccap, bb, e1, l3, k3, e2, l4, k4, rfl, hcb, d0, d1, d2, hfv⟩ := hrow.at hkc
          obtain ⟨s, hs⟩ : ∃ s, s = (f i k).num.sign := ⟨_, rfl⟩
          have hsg := rfsign_any wq _ (f i k) hfv (Nat.le_trans (HF.out i k).a (by decide))
          rw [← hs] at hsg
          clear hrow
          skip
          skip
          ((go_wp2_with fail); (((with_reducible refine (hsg).mono ?_))); (rintro e W2 ⟨rfl, hb⟩); (clear hfv hsg hcell hrb hcb d0 d1 d2 x0 x1 xl); (replace hin := hin.call hb); (replace bX := bX.call hb); (clear hb))
          by_cases hz : f i k = 0
          · have hs0 : s = 0 := by rw [hs, hz]; rfl
            subst hs0
            clear hs
            have x0 := bX.c0
            have x1 := bX.c1
            have xl := bX.lt
            go_wp2_with fail
            exact ⟨⟨k + 1, by omega, by rw [txI_zero hz], by go_num, hin, bX⟩, by simp [RowKit.intOf]; omega⟩
          · have hs0 : ¬ s = 0 := by
              rw [hs, Int.sign_eq_zero_iff_zero]
              exact fun h => hz (Rat.num_eq_zero.1 h)
            have hsI : (s == 0) = false := by rw [beq_eq_false_iff_ne]; exact hs0
            have hS := HST.out i k hz
            have hL := HLEN.out i k (by omega) hk
            have hq := HF.out i k
            have hle := hq.e
            have hni := natT_small (n := i) (by omega)
            have hnk := natT_small (n := k) (by omega)
            have HS := Lib.hid hS
            obtain ⟨b', off', rx, he, hrb, hcell, hrow⟩ := (HM.out.call hin.bel).at hir
            simp only [Option.some.injEq, Addr.mk.injEq, and_true] at he
            obtain ⟨rfl, rfl⟩ := he
            obtain ⟨cb, coff, ccap, bb, e1, l3, k3, e2, l4, k4, rfl, hcb, d0, d1, d2, hfv⟩ := hrow.at hkc
            have cft := fun W (hb : Below W2.heap.size W2 W) => rftext_any W _ (f i k) (hfv.call hb) hq.a hq.b hq.c hq.d
            have m1 : ¬ 9223372036854775807 < (txI r c f i k).length + 1 := by omega
            have m2 : ¬ 9223372036854775807 < (txI r c f i k).length + 1 + (natT i).length := by omega
            have m3 : ¬ 9223372036854775807 < (txI r c f i k).length + 1 + (natT i).length + 1 := by omega
            have m4 : ¬ 9223372036854775807 < (txI r c f i k).length + 1 + (natT i).length + 1 + (natT k).length := by omega
            have m5 : ¬ 9223372036854775807 < (txI r c f i k).length + 1 + (natT i).length + 1 + (natT k).length + 1 := by omega
            have m6 : ¬ 9223372036854775807 < (txI r c f i k).length + 1 + (natT i).length + 1 + (natT k).length + 1 + (ratT (f i k)).length := by omega
            have m7 : ¬ 9223372036854775807 < (txI r c f i k).length + 1 + (natT i).length + 1 + (natT k).length + 1 + (ratT (f i k)).length + 1 := by omega
            clear hS hL hq hle hni hnk hrow hs hz
            ((have x0 := bX.c0); (have x1 := bX.c1); (have xl := bX.lt))
            go_upto_region 9 with fail
            have h := In.self W2; have hc := h.cell; have hf := h.frozen; refine wp_region_flow 21 (by kernel_rfl) (by kernel_rfl) (fun _ _ d _ _ h => by cases d <;> exact h) ?_; simp only [List.take_succ_cons, List.take_zero, List.drop_succ_cons, List.drop_zero]; simp only [putAll, Act.put, List.setIfInBounds_toArray, List.set]; (try simp only [Nat.reduceAdd]); (try simp only [Nat.zero_add]); (repeat (first | ((with_reducible refine flow_float (v := ?_) ?_ ?_ ?_); rotate_left 1; (focus (with_reducible rfl)); (focus (intro u w1 hw hd w2; (try simp only [depH] at hd); (try simp only [ext] at hd); (try simp only [extU] at hd); (try simp only [Nat.reduceAdd] at hd); (try simp only [Nat.reduceEqDiff] at hd); (try simp only [reduceIte] at hd); (try simp only [and_true] at hd); (try simp only [true_and] at hd); go_simp; exact rfl))) | ((first | ((with_reducible refine flow_pure0 (v := ?_) ?_ ?_ ?_ ?_); rotate_left 1; (focus (with_reducible rfl)); (focus rfl)) | ((with_reducible refine flow_pureg (v := ?_) (j := ?_) (b := ?_) ?_ ?_ ?_ ?_); rotate_left 3; (focus (with_reducible rfl)); (focus (intro u w1 hw hd; (try simp only [depH] at hd); (try simp only [ext] at hd); (try simp only [extU] at hd); (try simp only [Nat.reduceAdd] at hd); (try simp only [Nat.reduceEqDiff] at hd); (try simp only [reduceIte] at hd); (try simp only [and_true] at hd); (try simp only [true_and] at hd); simp [yielded, hd]; done)))); (focus (intro u w1 hw hd; (try simp only [depH] at hd); (try simp only [ext] at hd); (try simp only [extU] at hd); (try simp only [Nat.reduceAdd] at hd); (try simp only [Nat.reduceEqDiff] at hd); (try simp only [reduceIte] at hd); (try simp only [and_true] at hd); (try simp only [true_and] at hd); have hc' := hw.cell; first | (go_simp; exact rfl) | (go_simp; go_at_call 39; ((with_reducible refine (dg _ i (by omega)).mono ?_)); rintro e w'' ⟨rfl, hb⟩; refine ⟨?_, hb⟩; exact rfl) | (go_simp; go_at_call 39; ((with_reducible refine (dg _ k (by omega)).mono ?_)); rintro e w'' ⟨rfl, hb⟩; refine ⟨?_, hb⟩; exact rfl) | (go_simp; go_at_call 41; ((with_reducible refine (cft _ hw.ins.bel).mono ?_)); rintro e w'' ⟨rfl, hb⟩; refine ⟨?_, hb⟩; exact rfl)))) | ((with_reducible refine flow_skipg (j := ?_) (b := ?_) ?_ ?_ ?_); rotate_left 2; (focus (with_reducible rfl)); (focus (intro u w1 hw hd; (try simp only [depH] at hd); (try simp only [ext] at hd); (try simp only [extU] at hd); (try simp only [Nat.reduceAdd] at hd); (try simp only [Nat.reduceEqDiff] at hd); (try simp only [reduceIte] at hd); (try simp only [and_true] at hd); (try simp only [true_and] at hd); simp [yielded, hd]; done))) | ((with_reducible refine flow_alloc (t := ?_) (zs := ?_) ?_ ?_ ?_ ?_); rotate_left 2; (focus (with_reducible rfl)); (focus rfl); (focus (intro u w1; go_simp; exact rfl)))))
            skip
            (try clear hc hf h); intro u w' h ha hdi; replace h := h.ins; (try simp only [World.size_alloc] at h); (try dsimp only at ha); (repeat rw [World.size_alloc] at ha); (try simp only [allH] at ha); (try simp only [ext] at ha); (try simp only [extU] at ha); (try simp only [Nat.reduceAdd] at ha); (try simp only [Nat.reduceEqDiff] at ha); (try simp only [reduceIte] at ha); (try simp only [and_true] at ha); (try simp only [true_and] at ha); have hc := h.cell; have hf := h.frozen; have hb := h.bel; clear hdi hc hf; clear x0 x1 xl m1 m2 m3 m4 m5 m6 m7 cft hfv d0 d1 d2 hcell hrb hcb; replace hin := hin.call hb; replace bX := bX.call hb; clear hb h; rename World => W3
            simp only [ha]
            clear ha
            go_wp2_with fail
            exact ⟨⟨k + 1, by omega, congrArg Value.string HS.out, by go_num, hin, bX⟩, by simp [RowKit.intOf]; omega⟩
        · obtain rfl : k = c := by omega
          have hkI : ¬ (k : Int) < k := by omega
          go_wp2_with fail
          exact ⟨⟨i + 1, by omega, by rw [← txI_row], by go_num, hin, bX⟩, by simp [RowKit.intOf]; omega⟩
    · obtain rfl : i = r := by omega
      have hirI : ¬ (i : Int) < i := by omega
      have x0 := bX.c0
      have x1 := bX.c1
      have xl := bX.lt
      go_wp2_with fail
      rw [txI_end]
      exact bodyPost_ret (v := strV (matT i c f)) (by simp [results, Tryz.results15, go_sem]) rfl ⟨rfl, hin.bel⟩
end Gus
end
section
/- gussetlaw16.SparsesBuild: what is carried through its loop. -/
namespace Gus
open Go Go.RowKit Go.Proofs
/-- items of one's own -/
def OwnI (w : World) (lo : Nat) (v : Value) (L : List Itm) : Prop := w.ownsRow lo 60 7 v L.length (itl L)
theorem OwnI.call {w w' : World} {lo : Nat} {v : Value} {L : List Itm} (h : OwnI w lo v L) (hb : Below w.heap.size w w') : OwnI w' lo v L := ownsRow_bel h hb
theorem OwnI.start (w : World) (lo : Nat) : OwnI w lo (.slice none 0 0) [] := World.ownsRow_nil _ _ _ _
theorem OwnI.set {w : World} {lo S : Nat} {v : Value} {L : List Itm} {T : TypeId} {cs : List Value} (h : OwnI w lo v L) (hS : Bx w S T cs) (hT : T ≠ 60) (j : Nat) (x : Value) : OwnI (w.setCell ⟨S, j, none⟩ x) lo v L :=
  ownsRow_grown h hS (Ne.symm hT) (gr_cell w ⟨S, j, none⟩ x)
theorem OwnI.shape {w : World} {lo : Nat} {v : Value} {L : List Itm} (h : OwnI w lo v L) : ∃ a c, v = .slice a L.length c := by
  rcases h.2 with ⟨rfl, hn⟩ | ⟨g, c, _, rfl, _⟩
  · exact ⟨none, 0, by rw [hn]⟩
  · exact ⟨_, _, rfl⟩
section
variable {w w' : World} {b n N M : Nat} {f : Nat → Nat → Rat}
theorem BM.keepT {P : TypeId → Prop} (h : BM w b n N M f) (hg : w.grownBy w' (some b)) : KeepT P w w' :=
  ⟨hg.size, fun b' cur T fz h1 _ => hg.block b' (Array.getElem?_eq_some_iff.1 h1).1 (fun e => by
    injection e with e
    subst e
    obtain ⟨D, ⟨es, clock, h2, _⟩, _⟩ := h
    rw [h1] at h2
    injection h2 with h3
    cases h3)⟩
theorem OwnI.map {lo : Nat} {v : Value} {L : List Itm} (hi : OwnI w lo v L) (h : BM w b n N M f) (hg : w.grownBy w' (some b)) : OwnI w' lo v L :=
  ownsRow_kept hi fun k hk => hg.block k (World.ownsRow.lt hi k hk).2 (fun e => by
    injection e with e
    subst e
    rcases hi.2 with ⟨rfl, _⟩ | ⟨g, cap, cur, rfl, _, hgr, _⟩
    · simp [Value.ownBlock] at hk
    · simp [Value.ownBlock] at hk
      subst hk
      obtain ⟨D, ⟨es, clock, h2, _⟩, _⟩ := h
      rw [hgr] at h2
      injection h2 with h3
      cases h3)
theorem Bx.map {S : Nat} {T : TypeId} {cs : List Value} (hS : Bx w S T cs) (h : BM w b n N M f) (hg : w.grownBy w' (some b)) : Bx w' S T cs :=
  hS.grown hg (fun e => by
    injection e with e
    subst e
    obtain ⟨D, ⟨es, clock, h2, _⟩, _⟩ := h
    have h1 : w.heap[S]? = some (Obj.cells cs.toArray T (0, 0)) := hS
    rw [h1] at h2
    injection h2 with h3
    cases h3)
end
/-- the result of gussetref16.Add, taken apart -/
def TupM (x : Value) : Prop := ∃ c a l k b, x = .tuple #[.agg #[.int .i64 c, .slice a l k], .bool b]
def MvM (y x : Value) : Prop := x = y ∧ TupM x
def FstM (y x : Value) : Prop := ∃ c a l k b, y = .tuple #[.agg #[.int .i64 c, .slice a l k], .bool b] ∧ x = .agg #[.int .i64 c, .slice a l k]
def SndM (y x : Value) : Prop := ∃ c a l k b, y = .tuple #[.agg #[.int .i64 c, .slice a l k], .bool b] ∧ x = .bool b
def AddQ (r c : Nat) (f : Nat → Nat → Rat) (ok : Bool) (x : Value) (w : World) : Prop := TupM x ∧ ∃ d, x = .tuple #[d, .bool ok] ∧ MatR w d r c f
theorem stable_addq (r c : Nat) (f : Nat → Nat → Rat) (ok : Bool) : Stable (AddQ r c f ok) := fun _ _ _ ⟨h1, d, h2, h3⟩ hs => ⟨h1, d, h2, h3.call hs⟩
theorem AddQ.t {r c : Nat} {f : Nat → Nat → Rat} {ok : Bool} {x : Value} {w : World} (h : AddQ r c f ok x w) : TupM x := h.1
theorem addq_mk {w w' : World} {r c : Nat} {f : Nat → Nat → Rat} {ok : Bool} {e : Ending} (h : (∃ v', e = .returned (.tuple #[v', .bool ok]) ∧ MatR w' v' r c f) ∧ Below w.heap.size w w') : (∃ v, e = .returned v ∧ AddQ r c f ok v w') ∧ Below w.heap.size w w' := by
  obtain ⟨⟨d, h1, h2⟩, hb⟩ := h
  obtain ⟨a, k, h3⟩ := h2.shape
  exact ⟨⟨_, h1, ⟨_, _, _, _, _, by rw [h3]⟩, d, rfl, h2⟩, hb⟩
theorem addq_out {r c : Nat} {f : Nat → Nat → Rat} {ok : Bool} {w : World} {x y z t : Value} (h3 : AddQ r c f ok x w) (h4 : MvM x y) (h5 : FstM y z) (h6 : SndM y t) :
    ∃ a k, z = .agg #[.int .i64 (c : Nat), .slice a r k] ∧ t = .bool ok ∧ MatR w (.agg #[.int .i64 (c : Nat), .slice a r k]) r c f := by
  obtain ⟨_, d, rfl, hd⟩ := h3
  obtain ⟨a, k, rfl⟩ := hd.shape
  obtain ⟨rfl, _⟩ := h4
  obtain ⟨c1, a1, l1, k1, b1, h7, rfl⟩ := h5
  obtain ⟨c2, a2, l2, k2, b2, h8, rfl⟩ := h6
  simp only [Value.tuple.injEq] at h7 h8
  have h9 := congrArg Array.toList h7
  have h10 := congrArg Array.toList h8
  simp only [List.cons.injEq, and_true, Value.bool.injEq] at h9 h10
  exact ⟨a, k, h9.1.symm, by rw [h10.2], hd⟩
theorem TAt.cells {w : World} {lb loff : Nat} {l : List TQ} (h : TAt w (some ⟨lb, loff, none⟩) l) {i I K : Nat} {n d : Int} (hi : i < l.length) (ht : l.getD i (0, 0, 0, 0) = (I, K, n, d)) :
    lb < w.heap.size ∧ w.cell? ⟨lb, loff + i * 4, none⟩ = some (.int .u8 I) ∧ w.cell? ⟨lb, loff + i * 4 + 1, none⟩ = some (.int .u8 K) ∧ w.cell? ⟨lb, loff + i * 4 + 2, none⟩ = some (.int .i64 n) ∧ w.cell? ⟨lb, loff + i * 4 + 3, none⟩ = some (.int .u32 d) := by
  obtain ⟨b, off, he, hb, c0, c1, c2, c3⟩ := h i hi
  simp only [Option.some.injEq, Addr.mk.injEq, and_true] at he
  obtain ⟨rfl, rfl⟩ := he
  rw [ht] at c0 c1 c2 c3
  exact ⟨hb, c0, c1, c2, c3⟩
theorem add_split {r c : Nat} {l : List TQ} {i : Nat} {row col : Int} {q : Rat} (hi : i < l.length) (h : itT (l.getD i (0, 0, 0, 0)) = (row, col, q)) :
    (∃ ri ci : Nat, row = ri ∧ col = ci ∧ ri < r ∧ ci < c ∧ fT r c (l.take (i + 1)) = setF (fT r c (l.take i)) ri ci (fT r c (l.take i) ri ci + q) ∧ itsT r c (l.take (i + 1)) = itsT r c (l.take i) ++ [(row, col, q)]) ∨
      (¬ (0 ≤ row ∧ row < r ∧ 0 ≤ col ∧ col < c) ∧ fT r c (l.take (i + 1)) = fT r c (l.take i) ∧ itsT r c (l.take (i + 1)) = itsT r c (l.take i)) := by
  by_cases ho : 0 ≤ row ∧ row < r ∧ 0 ≤ col ∧ col < c
  · obtain ⟨ri, rfl⟩ := Int.eq_ofNat_of_zero_le ho.1
    obtain ⟨ci, rfl⟩ := Int.eq_ofNat_of_zero_le ho.2.2.1
    exact .inl ⟨ri, ci, rfl, rfl, by omega, by omega, fT_in hi h (by omega) (by omega), by rw [itsT_in hi (by rw [h]; unfold okI; simp; omega), h]⟩
  · have e : okI r c (itT (l.getD i (0, 0, 0, 0))) = false := by
      rw [h, Bool.eq_false_iff]
      intro hh
      unfold okI at hh
      simp only [Bool.and_eq_true, decide_eq_true_eq] at hh
      exact ho ⟨hh.1.1.1, hh.1.1.2, hh.1.2, hh.2⟩
    exact .inr ⟨ho, fT_out hi e, itsT_out hi e⟩
theorem addr_any {w : World} {d : Value} {r c : Nat} {g g' : Nat → Nat → Rat} {q : Rat} {row col : Int} {Li L' : List Itm} (hm : MatR w d r c g) (hr : r ≤ 2048) (hc : c ≤ 2048) (hz : ∀ i k, SzK 4000 (g i k)) (hq : SzK 128 q)
    (hsp : (∃ ri ci : Nat, row = ri ∧ col = ci ∧ ri < r ∧ ci < c ∧ g' = setF g ri ci (g ri ci + q) ∧ L' = Li ++ [(row, col, q)]) ∨ (¬ (0 ≤ row ∧ row < r ∧ 0 ≤ col ∧ col < c) ∧ g' = g ∧ L' = Li)) :
    ∃ ok : Bool, ((ok = true ∧ ∃ ri ci : Nat, row = ri ∧ col = ci ∧ ri < r ∧ ci < c ∧ g' = setF g ri ci (g ri ci + q) ∧ L' = Li ++ [(row, col, q)]) ∨ (ok = false ∧ ¬ (0 ≤ row ∧ row < r ∧ 0 ≤ col ∧ col < c) ∧ g' = g ∧ L' = Li)) ∧
      ∀ W x, In w.heap.size w W → FV W x q → Calls Tryz.prog 7 #[d, .int .i64 row, .int .i64 col, x] W fun e w' => (∃ v, e = .returned v ∧ AddQ r c g' ok v w') ∧ Below W.heap.size W w' := by
  rcases hsp with ⟨ri, ci, e1, e2, h1, h2, e3, e4⟩ | ⟨h1, e3, e4⟩
  · refine ⟨true, .inl ⟨rfl, ri, ci, e1, e2, h1, h2, e3, e4⟩, fun W x hW hx => ?_⟩
    subst e1 e2 e3
    exact (radd16_in W _ x r c g q ri ci (hm.call hW.bel) hx h1 h2 hr hc (FS.of_szk ((hz _ _).mono (by decide))) (FS.of_szk (hq.mono (by decide)))).mono fun _ _ h => addq_mk h
  · refine ⟨false, .inr ⟨rfl, h1, e3, e4⟩, fun W x hW hx => ?_⟩
    subst e3
    exact (radd16_out W _ x r c g' q row col (hm.call hW.bel) hx h1 hr hc).mono fun _ _ h => addq_mk h
theorem BB.other {w : World} {p b n N M : Nat} {f : Nat → Nat → Rat} {a : Addr} (h : BB w p b n N M f) (hne : a.block ≠ p ∧ a.block ≠ b) (v : Value) : BB (w.setCell a v) p b n N M f := ⟨h.1.other hne.1 v, h.2.other hne.2 v⟩
theorem OwnI.snoc {w : World} {lo : Nat} {v : Value} {Li : List Itm} {a b A1 A4 : Int} {A2 A5 : ByteArray} {A3 : Bool} {q : Rat} (hA : fcs q = [.int .u64 A1, .string A2, .bool A3, .int .u64 A4, .string A5])
    (h : w.ownsRow lo 60 7 v (Li.length + 1) (itl Li ++ [.int .i64 a, .int .i64 b, .int .u64 A1, .string A2, .bool A3, .int .u64 A4, .string A5])) : OwnI w lo v (Li ++ [(a, b, q)]) := by
  have e : itl (Li ++ [(a, b, q)]) = itl Li ++ [.int .i64 a, .int .i64 b, .int .u64 A1, .string A2, .bool A3, .int .u64 A4, .string A5] := by
    unfold itl; rw [List.flatMap_append]; simp [ics, hA]
  unfold OwnI
  rw [e, List.length_append]
  exact h
theorem BB.grown {w w' : World} {p b n N M : Nat} {f : Nat → Nat → Rat} {o : Option Nat} (h : BB w p b n N M f) (hg : w.grownBy w' o) (h1 : o ≠ some p) (h2 : o ≠ some b) : BB w' p b n N M f :=
  ⟨h.1.grown hg (by first | exact h1 | exact fun e => h1 e.symm), h.2.of_block (hg.block b h.2.lt (by first | exact h2 | exact fun e => h2 e.symm))⟩
theorem ratTx_szk {w : World} (ht : TabW w) {q : Rat} (h : SzK 4000 q) : RatTx w q ∧ (ratT q).length ≤ 8010 := by
  have h1 : (natT q.num.natAbs).length ≤ 4000 := natT_szk (by decide) h.1
  have h2 : (natT q.den).length ≤ 4000 := natT_szk (by decide) h.2
  have h3 : (wd q.num.natAbs).length ≤ 4000 := wl_le h.1
  have h4 : (wd q.den).length ≤ 4000 := wl_le h.2
  constructor
  · intro W hW
    exact ratText_any TabW.kept q (fun W hW => natText_any _ (by omega) (by omega) W hW) (fun W hW => natText_any _ (by omega) (by omega) W hW) (by omega) (by omega) (by unfold Wl; omega) W (ht.call hW.bel)
  · have := intT_length q.num
    unfold ratT
    split
    · omega
    · rw [List.length_append, List.length_cons]; omega
theorem rtx_szk {w : World} (ht : TabW w) {q : Rat} (h : SzK 4000 q) : RTx 8010 q := by
  have h1 : (natT q.num.natAbs).length ≤ 4000 := natT_szk (by decide) h.1
  have h2 : (natT q.den).length ≤ 4000 := natT_szk (by decide) h.2
  have h3 := FS.of_szk h
  exact ⟨Nat.le_trans h3.1 (by decide), Nat.le_trans h3.2 (by decide), by omega, by omega, (ratTx_szk ht h).2⟩
end Gus
end
