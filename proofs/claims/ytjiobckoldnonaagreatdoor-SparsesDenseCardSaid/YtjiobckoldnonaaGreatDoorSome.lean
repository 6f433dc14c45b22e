import Derived.Test.YtjiobckoldnonaaGreatDoorMatA
import Derived.Deep.CutBlock
import Derived.WalkMore
/- A statement's matrix: gussetlaw13.Some. -/
namespace Gus
open Go Go.RowKit Go.Proofs
def fcs (q : Rat) : List Value := [.int .u64 (lo q.num.natAbs), .string (bg q.num.natAbs), .bool (decide (q.num < 0)), .int .u64 (lo (q.den - 1)), .string (bg (q.den - 1))]
def fcl (qs : List Rat) : List Value := qs.flatMap fcs
theorem fcl_length (qs : List Rat) : (fcl qs).length = qs.length * 5 := by
  unfold fcl
  induction qs with
  | nil => rfl
  | cons q qs ih => rw [List.flatMap_cons, List.length_append, ih, List.length_cons]; simp [fcs]; omega
theorem fcl_snoc (qs : List Rat) (q : Rat) : fcl (qs ++ [q]) = fcl qs ++ fcs q := by simp [fcl]
/-- the elements of a statement's slice of fractions -/
def QAt (w : World) (a : Option Addr) (qs : List (Int × Int)) : Prop :=
  ∀ i, i < qs.length → ∃ b off, a = some ⟨b, off, none⟩ ∧ b < w.heap.size ∧ w.cell? ⟨b, off + 2 * i, none⟩ = some (.int .i64 (qs.getD i (0, 0)).1) ∧ w.cell? ⟨b, off + 2 * i + 1, none⟩ = some (.int .u32 (qs.getD i (0, 0)).2)
def QOk (qs : List (Int × Int)) : Prop := ∀ p ∈ qs, -9223372036854775808 ≤ p.1 ∧ p.1 < 9223372036854775808 ∧ 0 ≤ p.2 ∧ p.2 < 4294967296
/-- the elements, with zeros for missing ones -/
def mEl (qs : List (Int × Int)) (i : Nat) : Rat := qOf (qs.getD i (0, 0)).1 (qs.getD i (0, 0)).2
def mList (qs : List (Int × Int)) (k : Nat) : List Rat := (List.range k).map (mEl qs)
theorem mList_succ (qs : List (Int × Int)) (k : Nat) : mList qs (k + 1) = mList qs k ++ [mEl qs k] := by simp [mList, List.range_succ]
theorem mList_length (qs : List (Int × Int)) (k : Nat) : (mList qs k).length = k := by simp [mList]
theorem ownsRow_setCell_low {w : World} {base : Nat} {e : TypeId} {size : Nat} {v : Value} {n : Nat} {xs : List Value} (h : w.ownsRow base e size v n xs) {a : Addr} (ha : a.block < base) (u : Value) : (w.setCell a u).ownsRow base e size v n xs := by
  refine ⟨h.1, ?_⟩
  rcases h.2 with hn | ⟨g, cap, cur, rfl, hb, hgg, rest⟩
  · exact .inl hn
  · refine .inr ⟨g, cap, cur, rfl, hb, ?_, rest⟩
    rw [Below.heap_setCell w a u g (by omega)]
    exact hgg
theorem ownsRow_low {w : World} {base base' : Nat} {e : TypeId} {size : Nat} {v : Value} {n : Nat} {xs : List Value} (h : w.ownsRow base e size v n xs) (hb : base' ≤ base) : w.ownsRow base' e size v n xs := by
  refine ⟨h.1, ?_⟩
  rcases h.2 with hn | ⟨g, cap, cur, rfl, hg, rest⟩
  · exact .inl hn
  · exact .inr ⟨g, cap, cur, rfl, by omega, rest⟩
theorem info_frac : (Tryz.prog.info? 56).map (fun i => (i.zero, i.size, i.bytes)) = some (some (.agg #[.int .u64 0, .string ⟨#[]⟩, .bool false, .int .u64 0, .string ⟨#[]⟩]), 5, 56) := by kernel_rfl
section
variable {P : Program} {ops : Array Oper} {w0 : World} {A : (Nat → Value) → Act} {T : Act → World → Prop} {i : Nat} {o : Oper} {os : List Oper} {V : Nat → (Nat → Value) → Value → World → Prop} {Φ : Nat → Bool}
/-- a new slice -/
def NewS (N : Nat) (T : TypeId) (zs : List Value) (n : Nat) (x : Value) (w : World) : Prop := ∃ b, x = .slice (some ⟨b, 0, none⟩) n n ∧ N ≤ b ∧ Bx w b T zs
theorem stable_newS (N : Nat) (T : TypeId) (zs : List Value) (n : Nat) : Stable (NewS N T zs n) := fun _ _ _ ⟨b, h1, h2, h3⟩ hs => ⟨b, h1, h2, h3.call hs⟩
theorem placed_newS (φ : Bool) (N : Nat) (T : TypeId) (zs : List Value) (n : Nat) : Placed φ (NewS N T zs n) := fun _ x w ⟨b, h1, h2, h3⟩ c hc => by
  subst h1; cases hc; exact h3.lt
theorem flow_slice {t : TypeId} {zs : Array Value} {n : Nat} (hg : o.guard = none) (hf : fl o = false) (h : ∀ u w, St w0 w → depH V u w o.after.toList → (execOp (A u).eval o).run P w = .ok (.value (.slice (some ⟨w.heap.size, 0, none⟩) n n)) (w.alloc (.cells zs t)))
    (k : flow P ops w0 A T (i + 1) os (ext V i (NewS w0.heap.size t zs.toList n)) (extB Φ i true)) : flow P ops w0 A T i (o :: os) V Φ :=
  ⟨fun _ => _, true, fun _ => stable_newS _ _ _ _, fun _ => placed_newS _ _ _ _ _, local_const _ _, fun u w hw hd => by
    unfold okOp
    rw [if_pos (by unfold Region.wanted; rw [hg]), h u w hw hd]
    exact ⟨⟨⟨w.heap.size, rfl, hw.size, Bx.new _ _ _⟩, fun _ b hb => by cases hb; exact Nat.le_refl _⟩, (Below.refl _ _).alloc (Nat.le_refl _) _⟩, fun h0 => absurd h0 (by rw [hf]; exact Bool.false_ne_true), k⟩
end
set_option maxRecDepth 100000 in
set_option maxHeartbeats 2000000 in
theorem some_any (w : World) (R0 C0 : Int) (a : Option Addr) (cap : Nat) (qs : List (Int × Int)) (r c : Nat) (hq : QAt w a qs) (hok : QOk qs) (hr : r ≤ 2048) (hc : c ≤ 2048) (hl : qs.length ≤ 1000) :
    Calls Tryz.prog 82 #[.agg #[.int .u8 R0, .int .u8 C0, .slice a qs.length cap], .int .i64 r, .int .i64 c] w fun e w' => ∃ v, e = .returned (.agg #[.int .i64 r, .int .i64 c, v]) ∧ w'.ownsRow w.heap.size 56 5 v (r * c) (fcl (mList qs (r * c))) ∧ Below w.heap.size w w' := by
  obtain ⟨i0, hi0, hix⟩ := Option.map_eq_some_iff.1 info_frac
  have hi1 := (Prod.mk.inj hix).1
  have hi2 := (Prod.mk.inj (Prod.mk.inj hix).2).1
  have hi3 := (Prod.mk.inj (Prod.mk.inj hix).2).2
  clear hix
  obtain ⟨L, hL⟩ : ∃ L, L = qs.length := ⟨_, rfl⟩
  obtain ⟨x, hx⟩ : ∃ x, x = r * c := ⟨_, rfl⟩
  have hxI : (r : Int) * c = (x : Int) := by rw [hx]; push_cast; rfl
  have hx1 : x ≤ 4194304 := by rw [hx]; exact Nat.mul_le_mul hr hc
  have hxw : IntKind.i64.wrap (x : Int) = x := IntWalk.i64_in _ (by omega)
  rw [← hx, ← hL]
  have HX := Lib.hid hx
  have HL := Lib.hid hL
  rw [← hL] at hl
  obtain ⟨N, hN⟩ : ∃ N, N = w.heap.size := ⟨_, rfl⟩
  have HN := Lib.hid hN
  clear hx hL
  go_enter Tryz.func82, Tryz.ntmps82
  go_upto_region 3 with fail
  rw [← hN]
  obtain ⟨W0, hW0⟩ : ∃ W0, W0 = ((w.alloc (.cells #[.int .u8 R0, .int .u8 C0, .slice a L cap] 74)).alloc (.cells #[.int .i64 0, .int .i64 0, .slice none 0 0] 78)).alloc (.cells #[.int .i64 r, .int .i64 c, .slice none 0 0] 78) := ⟨_, rfl⟩
  have bm : Bx W0 N 74 [.int .u8 R0, .int .u8 C0, .slice a L cap] := by rw [hW0]; exact ((Bx.new_at w _ _ hN).alloc _).alloc _
  have br : Bx W0 (N + 1) 78 [.int .i64 0, .int .i64 0, .slice none 0 0] := by rw [hW0]; exact (Bx.new_at _ _ _ (by rw [World.size_alloc, hN])).alloc _
  have bo : Bx W0 (N + 1 + 1) 78 [.int .i64 r, .int .i64 c, .slice none 0 0] := by rw [hW0]; exact Bx.new_at _ _ _ (by rw [World.size_alloc, World.size_alloc, hN])
  have hin : In N w W0 := by rw [hW0, hN]; exact (((In.self w).alloc _).alloc _).alloc _
  rw [← hW0]
  clear hW0 hN
  go_loopw [8] (fun v8 wr => ∃ k v, k ≤ x ∧ v8 = .int .i64 (k : Nat) ∧ Bx wr N 74 [.int .u8 R0, .int .u8 C0, .slice a L cap] ∧ Bx wr (N + 1) 78 [.int .i64 0, .int .i64 0, .slice none 0 0] ∧ Bx wr (N + 1 + 1) 78 [.int .i64 r, .int .i64 c, v] ∧ In N w wr ∧ wr.ownsRow (N + 1 + 1 + 1) 56 5 v k (fcl (mList qs k))) (fun v8 _ => x - (intOf v8).toNat)
  case atStart => exact ⟨0, _, Nat.zero_le _, rfl, bm, br, bo, hin, World.ownsRow_nil _ _ _ _⟩
  case round =>
    clear bm br bo hin
    obtain ⟨k, v, hk, rfl, bm, br, bo, hin, hown⟩ := hrel
    have m2 := bm.c2
    have o0 := bo.c0
    have o1 := bo.c1
    have o2 := bo.c2
    have r0 := br.c0
    have r1 := br.c1
    have r2 := br.c2
    have hlo := bo.lt
    have hl0 := bm.lt
    have hl1 := br.lt
    have hOWN := Lib.hid hown
    clear hown
    by_cases hkx : k < x
    · obtain ⟨n, hn⟩ : ∃ n, n = (qs.getD k (0, 0)).1 := ⟨_, rfl⟩
      obtain ⟨d, hd⟩ : ∃ d, d = (qs.getD k (0, 0)).2 := ⟨_, rfl⟩
      have hb4 : -9223372036854775808 ≤ n ∧ n < 9223372036854775808 ∧ 0 ≤ d ∧ d < 4294967296 := by
        rw [hn, hd]
        by_cases hkl : k < qs.length
        · rw [List.getD_eq_getElem?_getD, List.getElem?_eq_getElem hkl]
          exact hok _ (List.getElem_mem hkl)
        · rw [List.getD_eq_getElem?_getD, List.getElem?_eq_none (by omega)]
          exact ⟨by decide, by decide, by decide, by decide⟩
      have hmE : mEl qs k = qOf n d := by rw [hn, hd]; rfl
      obtain ⟨A1, A2, A3, A4, A5, hA, hA2⟩ : ∃ A1 A2 A3 A4 A5, fracV (qOf n d) = .agg #[.int .u64 A1, .string A2, .bool A3, .int .u64 A4, .string A5] ∧ fcs (qOf n d) = [.int .u64 A1, .string A2, .bool A3, .int .u64 A4, .string A5] := ⟨_, _, _, _, _, rfl, rfl⟩
      have hcq := qOf_any n d hb4.1 hb4.2.1 hb4.2.2.1 hb4.2.2.2
      rw [hA] at hcq
      rw [← hmE] at hA2
      have HE := Lib.hid hA2
      clear hA hA2 hmE hb4
      by_cases hkl : k < L
      · obtain ⟨b, off, ha, hb, hc0, hc1⟩ := hq k (by rw [← HL.out]; exact hkl)
        rw [← hn] at hc0
        rw [← hd] at hc1
        rw [Nat.mul_comm 2 k] at hc0 hc1
        clear hn hd
        have hbN : b < N := by rw [HN.out]; exact hb
        subst ha
        rw [← hin.cell b _ hbN] at hc0 hc1
        have hbw : b < wr.heap.size := by omega
        have hkI : (k : Int) < L := by omega
        have hk0 : (0 : Int) ≤ k := by omega
        clear hq hok HX
        go_upto_region 8 with fail
        obtain ⟨V, hV⟩ : ∃ V, V = wr.alloc (.cells #[.int .i64 n, .int .u32 d] 35) := ⟨_, rfl⟩
        have hVS : V.heap.size = wr.heap.size + 1 := by rw [hV, World.size_alloc]
        have f0 : V.cell? ⟨wr.heap.size, 0, none⟩ = some (.int .i64 n) := by rw [hV]; simp
        have f1 : V.cell? ⟨wr.heap.size, 1, none⟩ = some (.int .u32 d) := by rw [hV]; simp
        have bmV := bm.alloc (.cells #[.int .i64 n, .int .u32 d] 35); rw [← hV] at bmV
        have brV := br.alloc (.cells #[.int .i64 n, .int .u32 d] 35); rw [← hV] at brV
        have boV := bo.alloc (.cells #[.int .i64 n, .int .u32 d] 35); rw [← hV] at boV
        have hinV : In N w V := by rw [hV]; exact hin.alloc _
        have hownV : V.ownsRow (N + 1 + 1 + 1) 56 5 v k (fcl (mList qs k)) := by rw [hV]; exact hOWN.out.alloc _
        rw [← hV]
        have HV := Lib.hid hV
        have HOV := Lib.hid hownV
        clear hV hownV m2 o0 o1 o2 r0 r1 r2 bm br bo hin hOWN
        have o2 := boV.c2
        have hl3 : N + 1 + 1 < V.heap.size := boV.lt
        have hl4 : wr.heap.size < V.heap.size := by omega
        have h := In.self V
        have hc := h.cell
        refine wp_region_flow 5 (by kernel_rfl) (by kernel_rfl) (fun _ _ d _ _ h => by cases d <;> exact h) ?_; simp only [List.take_succ_cons, List.take_zero, List.drop_succ_cons, List.drop_zero]; simp only [putAll, Act.put, List.setIfInBounds_toArray, List.set]; (try simp only [Nat.reduceAdd]); (try simp only [Nat.zero_add]); (repeat (first | ((with_reducible refine flow_float (v := ?_) ?_ ?_ ?_); rotate_left 1; (focus (with_reducible rfl)); (focus (intro u w1 hw hd w2; (try simp only [depH] at hd); (try simp only [ext] at hd); (try simp only [extU] at hd); (try simp only [Nat.reduceAdd] at hd); (try simp only [Nat.reduceEqDiff] at hd); (try simp only [reduceIte] at hd); (try simp only [if_true] at hd); (try simp only [if_false] at hd); (try simp only [and_true] at hd); (try simp only [true_and] at hd); go_simp; exact rfl))) | ((with_reducible refine flow_pure0 (v := ?_) ?_ ?_ ?_ ?_); rotate_left 1; (focus (with_reducible rfl)); (focus rfl); (focus (intro u w1 hw hd; (try simp only [depH] at hd); (try simp only [ext] at hd); (try simp only [extU] at hd); (try simp only [Nat.reduceAdd] at hd); (try simp only [Nat.reduceEqDiff] at hd); (try simp only [reduceIte] at hd); (try simp only [if_true] at hd); (try simp only [if_false] at hd); (try simp only [and_true] at hd); (try simp only [true_and] at hd); have hc' := hw.cell; go_simp; exact rfl))) | ((with_reducible refine flow_skipg (j := ?_) (b := ?_) ?_ ?_ ?_); rotate_left 2; (focus (with_reducible rfl)); (focus (intro u w1 hw hd; (try simp only [depH] at hd); (try simp only [ext] at hd); (try simp only [extU] at hd); (try simp only [Nat.reduceAdd] at hd); (try simp only [Nat.reduceEqDiff] at hd); (try simp only [reduceIte] at hd); (try simp only [if_true] at hd); (try simp only [if_false] at hd); (try simp only [and_true] at hd); (try simp only [true_and] at hd); simp [yielded, hd]; done))) | ((with_reducible refine flow_pureg (v := ?_) (j := ?_) (b := ?_) ?_ ?_ ?_ ?_); rotate_left 3; (focus (with_reducible rfl)); (focus (intro u w1 hw hd; (try simp only [depH] at hd); (try simp only [ext] at hd); (try simp only [extU] at hd); (try simp only [Nat.reduceAdd] at hd); (try simp only [Nat.reduceEqDiff] at hd); (try simp only [reduceIte] at hd); (try simp only [if_true] at hd); (try simp only [if_false] at hd); (try simp only [and_true] at hd); (try simp only [true_and] at hd); simp [yielded, hd]; done)); (focus (intro u w1 hw hd; (try simp only [depH] at hd); (try simp only [ext] at hd); (try simp only [extU] at hd); (try simp only [Nat.reduceAdd] at hd); (try simp only [Nat.reduceEqDiff] at hd); (try simp only [reduceIte] at hd); (try simp only [if_true] at hd); (try simp only [if_false] at hd); (try simp only [and_true] at hd); (try simp only [true_and] at hd); have hc' := hw.cell; go_simp; exact rfl))) | ((with_reducible refine flow_alloc (t := ?_) (zs := ?_) ?_ ?_ ?_ ?_); rotate_left 2; (focus (with_reducible rfl)); (focus rfl); (focus (intro u w1; go_simp; exact rfl))) | ((with_reducible refine flow_pure0 (v := ?_) ?_ ?_ ?_ ?_); rotate_left 1; (focus (with_reducible rfl)); (focus rfl); (focus (intro u w1 hw hd; (try simp only [depH] at hd); (try simp only [ext] at hd); (try simp only [extU] at hd); (try simp only [Nat.reduceAdd] at hd); (try simp only [Nat.reduceEqDiff] at hd); (try simp only [reduceIte] at hd); (try simp only [if_true] at hd); (try simp only [if_false] at hd); (try simp only [and_true] at hd); (try simp only [true_and] at hd); have hc' := hw.cell; go_simp; go_at_call 16; ((with_reducible refine (hcq _).mono ?_)); rintro e w'' ⟨rfl, hb⟩; refine ⟨?_, hb⟩; exact rfl))) | ((with_reducible refine flow_pureg (v := ?_) (j := ?_) (b := ?_) ?_ ?_ ?_ ?_); rotate_left 3; (focus (with_reducible rfl)); (focus (intro u w1 hw hd; (try simp only [depH] at hd); (try simp only [ext] at hd); (try simp only [extU] at hd); (try simp only [Nat.reduceAdd] at hd); (try simp only [Nat.reduceEqDiff] at hd); (try simp only [reduceIte] at hd); (try simp only [if_true] at hd); (try simp only [if_false] at hd); (try simp only [and_true] at hd); (try simp only [true_and] at hd); simp [yielded, hd]; done)); (focus (intro u w1 hw hd; (try simp only [depH] at hd); (try simp only [ext] at hd); (try simp only [extU] at hd); (try simp only [Nat.reduceAdd] at hd); (try simp only [Nat.reduceEqDiff] at hd); (try simp only [reduceIte] at hd); (try simp only [if_true] at hd); (try simp only [if_false] at hd); (try simp only [and_true] at hd); (try simp only [true_and] at hd); have hc' := hw.cell; go_simp; go_at_call 16; ((with_reducible refine (hcq _).mono ?_)); rintro e w'' ⟨rfl, hb⟩; refine ⟨?_, hb⟩; exact rfl)))))
        (with_reducible refine flow_slice (t := 56) (zs := #[.int .u64 A1, .string A2, .bool A3, .int .u64 A4, .string A5]) (n := 1) ?_ ?_ ?_ ?_); (focus (with_reducible rfl)); (focus rfl); (focus (intro u w1 hw hd; (try simp only [depH] at hd); (try simp only [ext] at hd); (try simp only [extU] at hd); (try simp only [Nat.reduceAdd] at hd); (try simp only [Nat.reduceEqDiff] at hd); (try simp only [reduceIte] at hd); (try simp only [if_true] at hd); (try simp only [if_false] at hd); (try simp only [and_true] at hd); (try simp only [true_and] at hd); (try go_simp); (try exact rfl)))
        (try clear hc hf h); intro u w' h ha hdi; replace h := h.ins; (try simp only [World.size_alloc] at h); (try dsimp only at ha); (repeat rw [World.size_alloc] at ha); (try simp only [allH] at ha); (try simp only [ext] at ha); (try simp only [extU] at ha); (try simp only [Nat.reduceAdd] at ha); (try simp only [Nat.reduceEqDiff] at ha); (try simp only [reduceIte] at ha); (try simp only [if_true] at ha); (try simp only [if_false] at ha); (try simp only [and_true] at ha); (try simp only [true_and] at ha); have hc := h.cell; have hf := h.frozen
        obtain ⟨ha, G, hu, hGV, bg1⟩ := ha
        (try obtain ha := ha); (try dsimp only);  simp only [ha, hu]; clear ha hdi hu
        have bm2 := bmV.below h.bel bmV.lt
        have br2 := brV.below h.bel brV.lt
        have bo2 := boV.below h.bel boV.lt
        have hin2 := hinV.call h.bel
        have hown2 : w'.ownsRow (N + 1 + 1 + 1) 56 5 v k (fcl (mList qs k)) := HOV.out.kept (row := none) ⟨h.bel.os, h.bel.tape, h.bel.output, h.bel.size, fun k hk _ => h.bel.block k hk⟩ (by cases v.ownBlock <;> simp)
        have hvlt := hown2.lt
        have hws := h.siz
        refine wpList_append_own _ rfl (.tmp 32) (.tmp 35) 76 rfl (N + 1 + 1 + 1) 56 i0 (.agg #[.int .u64 0, .string ⟨#[]⟩, .bool false, .int .u64 0, .string ⟨#[]⟩]) 5 56 Tryz.underlying76 hi0 hi1 hi2 hi3 rfl (by decide) v k _ rfl hown2 ⟨G, 0, none⟩ 1 1 [.int .u64 A1, .string A2, .bool A3, .int .u64 A4, .string A5] rfl rfl ?c1 ?c2 ?c3 ?c4 ?c5 ?_
        case c1 =>
          intro j u hj
          have e : (⟨G, 0, none⟩ : Addr).add j = ⟨G, j, none⟩ := by unfold Addr.add; split <;> simp_all
          rw [e, bg1.cell j]; exact hj
        case c2 => intro u hu; simp at hu; rcases hu with rfl | rfl | rfl | rfl | rfl <;> rfl
        case c3 => simp only [maxLen]; omega
        case c4 => omega
        case c5 => omega
        intro v' w3 hown3 hgr hnil
        have bm3 := bm2.grown hgr (fun h => by have := (hvlt _ h.symm).1; omega)
        have br3 := br2.grown hgr (fun h => by have := (hvlt _ h.symm).1; omega)
        have bo3 := bo2.grown hgr (fun h => by have := (hvlt _ h.symm).1; omega)
        have hin3 : In N w w3 := ⟨hin2.bel.grown hgr hin2.siz (fun k h => by have := (hvlt _ h).1; omega), Nat.le_trans hin2.siz hgr.size⟩
        have l3 := bo3.lt
        have c3 := bo3.c2
        have g3 := bo3.frozen 2
        clear hc hf h bm2 br2 bo2 hin2 hown2 hvlt hws hgr hnil bmV brV boV hinV HOV f0 f1 o2 hl3 hl4 HV hVS bg1 hGV
        obtain ⟨g9, c9, rfl⟩ : ∃ g9 c9, v' = .slice (some ⟨g9, 0, none⟩) (k + 1) c9 := by
          rcases hown3.2 with ⟨_, hn⟩ | ⟨g9, c9, cur, h9, _⟩
          · omega
          · exact ⟨g9, c9, h9⟩
        have HO3 := Lib.hid hown3
        clear hown3
        go_frame
        go_wp2_with fail
        have bo4 := bo3.set 2 (.slice (some ⟨g9, 0, none⟩) (k + 1) c9)
        have bm4 := bm3.other (a := ⟨N + 1 + 1, 2, none⟩) (by simp; omega) (.slice (some ⟨g9, 0, none⟩) (k + 1) c9)
        have br4 := br3.other (a := ⟨N + 1 + 1, 2, none⟩) (by simp) (.slice (some ⟨g9, 0, none⟩) (k + 1) c9)
        have hin4 := hin3.setCell (p := ⟨N + 1 + 1, 2, none⟩) (by simp; omega) (.slice (some ⟨g9, 0, none⟩) (k + 1) c9)
        have hown4 : (w3.setCell ⟨N + 1 + 1, 2, none⟩ (.slice (some ⟨g9, 0, none⟩) (k + 1) c9)).ownsRow (N + 1 + 1 + 1) 56 5 (.slice (some ⟨g9, 0, none⟩) (k + 1) c9) (k + 1) (fcl (mList qs (k + 1))) := by
          rw [mList_succ, fcl_snoc, HE.out]
          exact ownsRow_setCell_low HO3.out (by simp) (.slice (some ⟨g9, 0, none⟩) (k + 1) c9)
        have hwk : IntKind.i64.wrap ((k : Int) + 1) = ((k + 1 : Nat) : Int) := IntWalk.i64_in _ (by omega)
        clear bm3 br3 bo3 hin3 HO3 c3 g3
        exact ⟨⟨k + 1, _, by omega, by go_num, bm4, br4, bo4, hin4, hown4⟩, by simp [intOf]; omega⟩
      · have hkI : ¬ (k : Int) < L := by omega
        have e0 : n = 0 := by
          rw [hn, List.getD_eq_getElem?_getD, List.getElem?_eq_none (by have := HL.out; omega)]; rfl
        have e1 : d = 0 := by
          rw [hd, List.getD_eq_getElem?_getD, List.getElem?_eq_none (by have := HL.out; omega)]; rfl
        clear hn hd hq hok HX
        subst e0 e1
        go_upto_region 8 with fail
        obtain ⟨V, hV⟩ : ∃ V, V = wr.alloc (.cells #[.int .i64 0, .int .u32 0] 35) := ⟨_, rfl⟩
        have hVS : V.heap.size = wr.heap.size + 1 := by rw [hV, World.size_alloc]
        have f0 : V.cell? ⟨wr.heap.size, 0, none⟩ = some (.int .i64 0) := by rw [hV]; simp
        have f1 : V.cell? ⟨wr.heap.size, 1, none⟩ = some (.int .u32 0) := by rw [hV]; simp
        have bmV := bm.alloc (.cells #[.int .i64 0, .int .u32 0] 35); rw [← hV] at bmV
        have brV := br.alloc (.cells #[.int .i64 0, .int .u32 0] 35); rw [← hV] at brV
        have boV := bo.alloc (.cells #[.int .i64 0, .int .u32 0] 35); rw [← hV] at boV
        have hinV : In N w V := by rw [hV]; exact hin.alloc _
        have hownV : V.ownsRow (N + 1 + 1 + 1) 56 5 v k (fcl (mList qs k)) := by rw [hV]; exact hOWN.out.alloc _
        rw [← hV]
        have HV := Lib.hid hV
        have HOV := Lib.hid hownV
        clear hV hownV m2 o0 o1 o2 r0 r1 r2 bm br bo hin hOWN
        have o2 := boV.c2
        have hl3 : N + 1 + 1 < V.heap.size := boV.lt
        have hl4 : wr.heap.size < V.heap.size := by omega
        have h := In.self V
        have hc := h.cell
        refine wp_region_flow 5 (by kernel_rfl) (by kernel_rfl) (fun _ _ d _ _ h => by cases d <;> exact h) ?_; simp only [List.take_succ_cons, List.take_zero, List.drop_succ_cons, List.drop_zero]; simp only [putAll, Act.put, List.setIfInBounds_toArray, List.set]; (try simp only [Nat.reduceAdd]); (try simp only [Nat.zero_add]); (repeat (first | ((with_reducible refine flow_float (v := ?_) ?_ ?_ ?_); rotate_left 1; (focus (with_reducible rfl)); (focus (intro u w1 hw hd w2; (try simp only [depH] at hd); (try simp only [ext] at hd); (try simp only [extU] at hd); (try simp only [Nat.reduceAdd] at hd); (try simp only [Nat.reduceEqDiff] at hd); (try simp only [reduceIte] at hd); (try simp only [if_true] at hd); (try simp only [if_false] at hd); (try simp only [and_true] at hd); (try simp only [true_and] at hd); go_simp; exact rfl))) | ((with_reducible refine flow_pure0 (v := ?_) ?_ ?_ ?_ ?_); rotate_left 1; (focus (with_reducible rfl)); (focus rfl); (focus (intro u w1 hw hd; (try simp only [depH] at hd); (try simp only [ext] at hd); (try simp only [extU] at hd); (try simp only [Nat.reduceAdd] at hd); (try simp only [Nat.reduceEqDiff] at hd); (try simp only [reduceIte] at hd); (try simp only [if_true] at hd); (try simp only [if_false] at hd); (try simp only [and_true] at hd); (try simp only [true_and] at hd); have hc' := hw.cell; go_simp; exact rfl))) | ((with_reducible refine flow_skipg (j := ?_) (b := ?_) ?_ ?_ ?_); rotate_left 2; (focus (with_reducible rfl)); (focus (intro u w1 hw hd; (try simp only [depH] at hd); (try simp only [ext] at hd); (try simp only [extU] at hd); (try simp only [Nat.reduceAdd] at hd); (try simp only [Nat.reduceEqDiff] at hd); (try simp only [reduceIte] at hd); (try simp only [if_true] at hd); (try simp only [if_false] at hd); (try simp only [and_true] at hd); (try simp only [true_and] at hd); simp [yielded, hd]; done))) | ((with_reducible refine flow_pureg (v := ?_) (j := ?_) (b := ?_) ?_ ?_ ?_ ?_); rotate_left 3; (focus (with_reducible rfl)); (focus (intro u w1 hw hd; (try simp only [depH] at hd); (try simp only [ext] at hd); (try simp only [extU] at hd); (try simp only [Nat.reduceAdd] at hd); (try simp only [Nat.reduceEqDiff] at hd); (try simp only [reduceIte] at hd); (try simp only [if_true] at hd); (try simp only [if_false] at hd); (try simp only [and_true] at hd); (try simp only [true_and] at hd); simp [yielded, hd]; done)); (focus (intro u w1 hw hd; (try simp only [depH] at hd); (try simp only [ext] at hd); (try simp only [extU] at hd); (try simp only [Nat.reduceAdd] at hd); (try simp only [Nat.reduceEqDiff] at hd); (try simp only [reduceIte] at hd); (try simp only [if_true] at hd); (try simp only [if_false] at hd); (try simp only [and_true] at hd); (try simp only [true_and] at hd); have hc' := hw.cell; go_simp; exact rfl))) | ((with_reducible refine flow_alloc (t := ?_) (zs := ?_) ?_ ?_ ?_ ?_); rotate_left 2; (focus (with_reducible rfl)); (focus rfl); (focus (intro u w1; go_simp; exact rfl))) | ((with_reducible refine flow_pure0 (v := ?_) ?_ ?_ ?_ ?_); rotate_left 1; (focus (with_reducible rfl)); (focus rfl); (focus (intro u w1 hw hd; (try simp only [depH] at hd); (try simp only [ext] at hd); (try simp only [extU] at hd); (try simp only [Nat.reduceAdd] at hd); (try simp only [Nat.reduceEqDiff] at hd); (try simp only [reduceIte] at hd); (try simp only [if_true] at hd); (try simp only [if_false] at hd); (try simp only [and_true] at hd); (try simp only [true_and] at hd); have hc' := hw.cell; go_simp; go_at_call 16; ((with_reducible refine (hcq _).mono ?_)); rintro e w'' ⟨rfl, hb⟩; refine ⟨?_, hb⟩; exact rfl))) | ((with_reducible refine flow_pureg (v := ?_) (j := ?_) (b := ?_) ?_ ?_ ?_ ?_); rotate_left 3; (focus (with_reducible rfl)); (focus (intro u w1 hw hd; (try simp only [depH] at hd); (try simp only [ext] at hd); (try simp only [extU] at hd); (try simp only [Nat.reduceAdd] at hd); (try simp only [Nat.reduceEqDiff] at hd); (try simp only [reduceIte] at hd); (try simp only [if_true] at hd); (try simp only [if_false] at hd); (try simp only [and_true] at hd); (try simp only [true_and] at hd); simp [yielded, hd]; done)); (focus (intro u w1 hw hd; (try simp only [depH] at hd); (try simp only [ext] at hd); (try simp only [extU] at hd); (try simp only [Nat.reduceAdd] at hd); (try simp only [Nat.reduceEqDiff] at hd); (try simp only [reduceIte] at hd); (try simp only [if_true] at hd); (try simp only [if_false] at hd); (try simp only [and_true] at hd); (try simp only [true_and] at hd); have hc' := hw.cell; go_simp; go_at_call 16; ((with_reducible refine (hcq _).mono ?_)); rintro e w'' ⟨rfl, hb⟩; refine ⟨?_, hb⟩; exact rfl)))))
        (with_reducible refine flow_slice (t := 56) (zs := #[.int .u64 A1, .string A2, .bool A3, .int .u64 A4, .string A5]) (n := 1) ?_ ?_ ?_ ?_); (focus (with_reducible rfl)); (focus rfl); (focus (intro u w1 hw hd; (try simp only [depH] at hd); (try simp only [ext] at hd); (try simp only [extU] at hd); (try simp only [Nat.reduceAdd] at hd); (try simp only [Nat.reduceEqDiff] at hd); (try simp only [reduceIte] at hd); (try simp only [if_true] at hd); (try simp only [if_false] at hd); (try simp only [and_true] at hd); (try simp only [true_and] at hd); (try go_simp); (try exact rfl)))
        (try clear hc hf h); intro u w' h ha hdi; replace h := h.ins; (try simp only [World.size_alloc] at h); (try dsimp only at ha); (repeat rw [World.size_alloc] at ha); (try simp only [allH] at ha); (try simp only [ext] at ha); (try simp only [extU] at ha); (try simp only [Nat.reduceAdd] at ha); (try simp only [Nat.reduceEqDiff] at ha); (try simp only [reduceIte] at ha); (try simp only [if_true] at ha); (try simp only [if_false] at ha); (try simp only [and_true] at ha); (try simp only [true_and] at ha); have hc := h.cell; have hf := h.frozen
        obtain ⟨ha, G, hu, hGV, bg1⟩ := ha
        (try obtain ha := ha); (try dsimp only);  simp only [ha, hu]; clear ha hdi hu
        have bm2 := bmV.below h.bel bmV.lt
        have br2 := brV.below h.bel brV.lt
        have bo2 := boV.below h.bel boV.lt
        have hin2 := hinV.call h.bel
        have hown2 : w'.ownsRow (N + 1 + 1 + 1) 56 5 v k (fcl (mList qs k)) := HOV.out.kept (row := none) ⟨h.bel.os, h.bel.tape, h.bel.output, h.bel.size, fun k hk _ => h.bel.block k hk⟩ (by cases v.ownBlock <;> simp)
        have hvlt := hown2.lt
        have hws := h.siz
        refine wpList_append_own _ rfl (.tmp 32) (.tmp 35) 76 rfl (N + 1 + 1 + 1) 56 i0 (.agg #[.int .u64 0, .string ⟨#[]⟩, .bool false, .int .u64 0, .string ⟨#[]⟩]) 5 56 Tryz.underlying76 hi0 hi1 hi2 hi3 rfl (by decide) v k _ rfl hown2 ⟨G, 0, none⟩ 1 1 [.int .u64 A1, .string A2, .bool A3, .int .u64 A4, .string A5] rfl rfl ?c1 ?c2 ?c3 ?c4 ?c5 ?_
        case c1 =>
          intro j u hj
          have e : (⟨G, 0, none⟩ : Addr).add j = ⟨G, j, none⟩ := by unfold Addr.add; split <;> simp_all
          rw [e, bg1.cell j]; exact hj
        case c2 => intro u hu; simp at hu; rcases hu with rfl | rfl | rfl | rfl | rfl <;> rfl
        case c3 => simp only [maxLen]; omega
        case c4 => omega
        case c5 => omega
        intro v' w3 hown3 hgr hnil
        have bm3 := bm2.grown hgr (fun h => by have := (hvlt _ h.symm).1; omega)
        have br3 := br2.grown hgr (fun h => by have := (hvlt _ h.symm).1; omega)
        have bo3 := bo2.grown hgr (fun h => by have := (hvlt _ h.symm).1; omega)
        have hin3 : In N w w3 := ⟨hin2.bel.grown hgr hin2.siz (fun k h => by have := (hvlt _ h).1; omega), Nat.le_trans hin2.siz hgr.size⟩
        have l3 := bo3.lt
        have c3 := bo3.c2
        have g3 := bo3.frozen 2
        clear hc hf h bm2 br2 bo2 hin2 hown2 hvlt hws hgr hnil bmV brV boV hinV HOV f0 f1 o2 hl3 hl4 HV hVS bg1 hGV
        obtain ⟨g9, c9, rfl⟩ : ∃ g9 c9, v' = .slice (some ⟨g9, 0, none⟩) (k + 1) c9 := by
          rcases hown3.2 with ⟨_, hn⟩ | ⟨g9, c9, cur, h9, _⟩
          · omega
          · exact ⟨g9, c9, h9⟩
        have HO3 := Lib.hid hown3
        clear hown3
        go_frame
        go_wp2_with fail
        have bo4 := bo3.set 2 (.slice (some ⟨g9, 0, none⟩) (k + 1) c9)
        have bm4 := bm3.other (a := ⟨N + 1 + 1, 2, none⟩) (by simp; omega) (.slice (some ⟨g9, 0, none⟩) (k + 1) c9)
        have br4 := br3.other (a := ⟨N + 1 + 1, 2, none⟩) (by simp) (.slice (some ⟨g9, 0, none⟩) (k + 1) c9)
        have hin4 := hin3.setCell (p := ⟨N + 1 + 1, 2, none⟩) (by simp; omega) (.slice (some ⟨g9, 0, none⟩) (k + 1) c9)
        have hown4 : (w3.setCell ⟨N + 1 + 1, 2, none⟩ (.slice (some ⟨g9, 0, none⟩) (k + 1) c9)).ownsRow (N + 1 + 1 + 1) 56 5 (.slice (some ⟨g9, 0, none⟩) (k + 1) c9) (k + 1) (fcl (mList qs (k + 1))) := by
          rw [mList_succ, fcl_snoc, HE.out]
          exact ownsRow_setCell_low HO3.out (by simp) (.slice (some ⟨g9, 0, none⟩) (k + 1) c9)
        have hwk : IntKind.i64.wrap ((k : Int) + 1) = ((k + 1 : Nat) : Int) := IntWalk.i64_in _ (by omega)
        clear bm3 br3 bo3 hin3 HO3 c3 g3
        exact ⟨⟨k + 1, _, by omega, by go_num, bm4, br4, bo4, hin4, hown4⟩, by simp [intOf]; omega⟩
    · have hkx' : k = x := by omega
      obtain ⟨av, cv, rfl⟩ : ∃ av cv, v = .slice av k cv := by
        rcases hOWN.out.2 with ⟨rfl, hn⟩ | ⟨g9, c9, cur, h9, _⟩
        · exact ⟨none, 0, by rw [hn]⟩
        · exact ⟨_, _, h9⟩
      have f0 := br.frozen 0
      have f1 := br.frozen 1
      have f2 := br.frozen 2
      have br5 := ((br.set 0 (.int .i64 r)).set 1 (.int .i64 c)).set 2 (.slice av k cv)
      have hin5 := ((hin.setCell (p := ⟨N + 1, 0, none⟩) (by simp) (.int .i64 r)).setCell (p := ⟨N + 1, 1, none⟩) (by simp) (.int .i64 c)).setCell (p := ⟨N + 1, 2, none⟩) (by simp) (.slice av k cv)
      have hown5 := ownsRow_low (base' := w.heap.size) (ownsRow_setCell_low (a := ⟨N + 1, 2, none⟩) (ownsRow_setCell_low (a := ⟨N + 1, 1, none⟩) (ownsRow_setCell_low (a := ⟨N + 1, 0, none⟩) hOWN.out (by simp) (.int .i64 r)) (by simp) (.int .i64 c)) (by simp) (.slice av k cv)) (by have := HN.out; omega)
      have hkI : ¬ (k : Int) < x := by omega
      clear hq hok HX bm br bo hin hOWN m2
      have H5 := Lib.hid hown5
      have HB5 := Lib.hid hin5
      have HR5 := Lib.hid br5
      have HKX := Lib.hid hkx'
      clear hown5 hin5 br5 hkx'
      go_wp2_with fail
      obtain ⟨W5, hW5⟩ : ∃ W5, W5 = ((wr.setCell ⟨N + 1, 0, none⟩ (.int .i64 r)).setCell ⟨N + 1, 1, none⟩ (.int .i64 c)).setCell ⟨N + 1, 2, none⟩ (.slice av k cv) := ⟨_, rfl⟩
      have br6 := HR5.out
      have hin6 := HB5.out
      have hown6 := H5.out
      rw [← hW5] at br6 hin6 hown6 ⊢
      clear hW5 H5 HB5 HR5 o0 o1 o2 r0 r1 r2 hlo hl0 hl1 f0 f1 f2
      have e0 : W5.cell? ⟨N + 1, 0, none⟩ = some (.int .i64 r) := br6.cell 0
      have e1 : W5.cell? ⟨N + 1, 1, none⟩ = some (.int .i64 c) := br6.cell 1
      have e2 : W5.cell? ⟨N + 1, 2, none⟩ = some (.slice av k cv) := br6.cell 2
      have hb6 : Below w.heap.size w W5 := by rw [← HN.out]; exact hin6.bel
      refine bodyPost_ret (v := .agg #[.int .i64 r, .int .i64 c, .slice av k cv]) ?_ rfl ⟨_, rfl, ?_, hb6⟩
      · simp [results, Tryz.results82, go_sem, e0, e1, e2]
      rw [← HKX.out]
      exact hown6
end Gus
