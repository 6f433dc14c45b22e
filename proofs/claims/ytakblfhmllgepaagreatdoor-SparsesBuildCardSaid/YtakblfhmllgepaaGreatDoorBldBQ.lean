/- Proved here: parts of the proof: BldB MatA Some SpB RegC Lst. Conditions: those that each theorem states. -/
import Derived.Test.YtakblfhmllgepaaGreatDoorMapQ
import Derived.IntWalk
import Derived.Deep.CutBlock
import Derived.WalkMore
import Derived.Test.YtakblfhmllgepaaGreatDoorNatJQ
section
/- Builders: New, At, a nil Builder. -/
namespace Gus
open Go Go.RowKit Go.Proofs Go.ChangeMaps Go.MapKept
set_option maxRecDepth 100000 in
theorem new_bad (n m : Int) (h : sidesE n m ≠ 0) (w : World) :
    Calls Tryz.prog 5 #[.int .i64 n, .int .i64 m] w fun e w' => e = .returned (.tuple #[.pointer none, .int .i64 (sidesE n m)]) ∧ Below w.heap.size w w' := by
  have h1 := sides_any n m
  obtain ⟨s, hs⟩ : ∃ s, s = sidesE n m := ⟨_, rfl⟩
  rw [← hs] at h1 h ⊢
  have hb : (s != 0) = true := by simpa using h
  clear hs h
  go_enter Tryz.func5, Tryz.ntmps5
  go_wp2_with fail
  (((with_reducible refine (h1 _).mono ?_)); rintro e w' ⟨rfl, hb⟩; have h := (In.self _).call hb; (try simp only [World.size_alloc] at h); (try simp only [World.size_setCell] at h); clear hb; have hc := h.cell; have hf := h.frozen)
  go_wp2_with fail
  go_ret2
  exact ⟨rfl, by (refine In.bel ?_; (repeat (first | (refine In.setCell ?_ (by first | omega | (simp; done) | (simp; omega)) _) | (refine In.alloc ?_ _) | (refine In.drew ?_))); (first | exact In.self _ | (refine In.out h ?_ (by first | omega | (simp; done) | (simp; omega)); (repeat (first | (refine In.setCell ?_ (by first | omega | (simp; done) | (simp; omega)) _) | (refine In.alloc ?_ _) | (refine In.drew ?_))); exact In.self _)))⟩
set_option maxRecDepth 100000 in
theorem new_ok (N M : Nat) (hN : N ≤ 2048) (hM : M ≤ 2048) (w : World) :
    Calls Tryz.prog 5 #[.int .i64 N, .int .i64 M] w fun e w' => ∃ b, e = .returned (.tuple #[.pointer (some ⟨b + 1, 0, none⟩), .int .i64 0]) ∧ w.heap.size ≤ b ∧ BB w' (b + 1) b 0 N M (fun _ _ => 0) ∧ Below w.heap.size w w' := by
  have h1 := sides_any N M
  rw [show sidesE N M = 0 by unfold sidesE; rw [if_neg (by omega), if_neg (by omega)]] at h1
  have h2 := begun_any N M
  go_enter Tryz.func5, Tryz.ntmps5
  go_wp2_with fail
  (((with_reducible refine (h1 _).mono ?_)); rintro e w' ⟨rfl, hb⟩; have h := (In.self _).call hb; (try simp only [World.size_alloc] at h); (try simp only [World.size_setCell] at h); clear hb; have hc := h.cell; have hf := h.frozen)
  go_wp2_with fail
  ((with_reducible refine (h2 _).mono ?_))
  rintro e w2 ⟨rfl, hb, hbel⟩
  have hsz := h.siz
  have hin := h.call hbel
  obtain ⟨B, hB⟩ : ∃ B, B = w'.heap.size := ⟨_, rfl⟩
  rw [← hB] at hb hsz ⊢
  clear hB hbel h hc hf h1 h2
  go_wp2_with fail
  go_ret2
  exact ⟨B, rfl, hsz, hb, hin.bel⟩
theorem BM.lookup_out {w : World} {b n N M : Nat} {f : Nat → Nat → Rat} (h : BM w b n N M f) (hN : N ≤ 2048) (hM : M ≤ 2048) {i k : Int} (hi : (Lit.int .i64 i).wf = true) (hk : (Lit.int .i64 k).wf = true) (ho : ¬ (0 ≤ i ∧ i < N ∧ 0 ≤ k ∧ k < M)) :
    (Instr.lookup 88 (.map (some b)) (posV i k) false).run Tryz.prog w = .ok (fracV 0) w := by
  obtain ⟨D, h1, h2, h3, h4, h5⟩ := h
  have hkey := posL_of hi hk
  obtain ⟨v, ps, hr, hv⟩ := h1.lookup place_keyed Tryz.underlying88 (zeroFrac w) (Rf_frac 0) hkey
  have hno : Maps.has D (posL i k) = false := by
    cases hh : Maps.has D (posL i k) with
    | false => rfl
    | true =>
      exfalso
      obtain ⟨a, c, ha, hc, he⟩ := h5 _ hh
      have e2 := posL_at (show a < 2048 by omega) (show c < 2048 by omega)
      rw [← he] at e2
      have := place_keyed.inj hkey e2
      simp only [posV, Value.agg.injEq] at this
      have h3 := congrArg Array.toList this
      simp only [List.cons.injEq, Value.int.injEq, true_and, and_true] at h3
      omega
  rw [Maps.atKey_of_not_has hno] at hv
  obtain ⟨q, rfl, hq⟩ := Rf_inv hv
  cases hq
  exact hr
/-- the entry at any position -/
def atF (N M : Nat) (f : Nat → Nat → Rat) (i k : Int) : Rat := if 0 ≤ i ∧ i < N ∧ 0 ≤ k ∧ k < M then f i.toNat k.toNat else 0
theorem BM.lookup_any {w : World} {b n N M : Nat} {f : Nat → Nat → Rat} (h : BM w b n N M f) (hN : N ≤ 2048) (hM : M ≤ 2048) {i k : Int} (hi : (Lit.int .i64 i).wf = true) (hk : (Lit.int .i64 k).wf = true) :
    (Instr.lookup 88 (.map (some b)) (posV i k) false).run Tryz.prog w = .ok (fracV (atF N M f i k)) w := by
  unfold atF
  by_cases ho : 0 ≤ i ∧ i < N ∧ 0 ≤ k ∧ k < M
  · rw [if_pos ho]
    obtain ⟨a, rfl⟩ := Int.eq_ofNat_of_zero_le ho.1
    obtain ⟨c, rfl⟩ := Int.eq_ofNat_of_zero_le ho.2.2.1
    exact h.lookup hN hM (by omega) (by omega)
  · rw [if_neg ho]
    exact h.lookup_out hN hM hi hk ho
set_option maxRecDepth 100000 in
theorem bat_any (w : World) (p b n N M : Nat) (f : Nat → Nat → Rat) (i k : Int) (hB : BB w p b n N M f) (hN : N ≤ 2048) (hM : M ≤ 2048) (hi : (Lit.int .i64 i).wf = true) (hk : (Lit.int .i64 k).wf = true) :
    Calls Tryz.prog 11 #[.pointer (some ⟨p, 0, none⟩), .int .i64 i, .int .i64 k] w fun e w' => e = .returned (fracV (atF N M f i k)) ∧ Below w.heap.size w w' := by
  have c2 := hB.1.c2
  have hp := hB.1.lt
  have hl : ∀ o, (Instr.lookup 88 (.map (some b)) (posV i k) false).run Tryz.prog (w.alloc o) = .ok (fracV (atF N M f i k)) (w.alloc o) := fun o => (hB.2.alloc o).lookup_any hN hM hi hk
  obtain ⟨q, hq⟩ : ∃ q, q = atF N M f i k := ⟨_, rfl⟩
  rw [← hq] at hl ⊢
  clear hq hB hi hk
  go_enter Tryz.func11, Tryz.ntmps11
  go_wp2_with fail
  exact bodyPost_ret (v := fracV q) (by simp [results, Tryz.results11, go_sem, *]) rfl ⟨rfl, by (refine In.bel ?_; (repeat (first | (refine In.setCell ?_ (by first | omega | (simp; done) | (simp; omega)) _) | (refine In.alloc ?_ _) | (refine In.drew ?_))); (first | exact In.self _ | (refine In.out h ?_ (by first | omega | (simp; done) | (simp; omega)); (repeat (first | (refine In.setCell ?_ (by first | omega | (simp; done) | (simp; omega)) _) | (refine In.alloc ?_ _) | (refine In.drew ?_))); exact In.self _)))⟩
end Gus
end
section
/- A statement's matrix: gussetlaw13.Some. -/
namespace Gus
open Go Go.RowKit Go.Proofs
def fcs (q : Rat) : List Value := [.int .u64 (lo q.num.natAbs), .string (bg q.num.natAbs), .bool (decide (q.num < 0)), .int .u64 (lo (q.den - 1)), .string (bg (q.den - 1))]
def fcl (qs : List Rat) : List Value := qs.flatMap fcs
theorem fcl_length (qs : List Rat) : (fcl qs).length = qs.length * 5 := by
  unfold fcl
  induction qs with
  | nil => rfl
  | cons q qs ih => rw [List.flatMap_cons, List.length_append, ih, List.length_cons]; simp [fcs]; omega
/-- the elements of a statement's slice of fractions -/
def QAt (w : World) (a : Option Addr) (qs : List (Int × Int)) : Prop :=
  ∀ i, i < qs.length → ∃ b off, a = some ⟨b, off, none⟩ ∧ b < w.heap.size ∧ w.cell? ⟨b, off + 2 * i, none⟩ = some (.int .i64 (qs.getD i (0, 0)).1) ∧ w.cell? ⟨b, off + 2 * i + 1, none⟩ = some (.int .u32 (qs.getD i (0, 0)).2)
section
variable {P : Program} {ops : Array Oper} {w0 : World} {A : (Nat → Value) → Act} {T : Act → World → Prop} {i : Nat} {o : Oper} {os : List Oper} {V : Nat → (Nat → Value) → Value → World → Prop} {Φ : Nat → Bool}
/-- a new slice -/
def NewS (N : Nat) (T : TypeId) (zs : List Value) (n : Nat) (x : Value) (w : World) : Prop := ∃ b, x = .slice (some ⟨b, 0, none⟩) n n ∧ N ≤ b ∧ Bx w b T zs
theorem stable_newS (N : Nat) (T : TypeId) (zs : List Value) (n : Nat) : Stable (NewS N T zs n) := fun _ _ _ ⟨b, h1, h2, h3⟩ hs => ⟨b, h1, h2, h3.call hs⟩
theorem placed_newS (φ : Bool) (N : Nat) (T : TypeId) (zs : List Value) (n : Nat) : Placed φ (NewS N T zs n) := fun _ x w ⟨b, h1, h2, h3⟩ c hc => by
  subst h1; cases hc; exact h3.lt
theorem flow_slice {t : TypeId} {zs : Array Value} {n : Nat} (hg : o.guard = none) (hf : fl o = false) (h : ∀ u w, St w0 w → depH V u w o.after.toList → (execOp (A u).eval o).run P w = .ok (.value (.slice (some ⟨w.heap.size, 0, none⟩) n n)) (w.alloc (.cells zs t)))
    (k : flow P ops w0 A T (i + 1) os (ext V i (NewS w0.heap.size t zs.toList n)) (extB Φ i true)) : flow P ops w0 A T i (o :: os) V Φ :=
  ⟨fun _ => _, true, fun _ => stable_newS _ _ _ _, fun _ => placed_newS _ _ _ _ _, local_const _ _, fun u w hw hd => by
    unfold okOp
    rw [if_pos (by unfold Region.wanted; rw [hg]), h u w hw hd]
    exact ⟨⟨⟨w.heap.size, rfl, hw.size, Bx.new _ _ _⟩, fun _ b hb => by cases hb; exact Nat.le_refl _⟩, (Below.refl _ _).alloc (Nat.le_refl _) _⟩, fun h0 => absurd h0 (by rw [hf]; exact Bool.false_ne_true), k⟩
end
end Gus
end
section
/- Rows of entries and sparse matrices, as they are read. -/
namespace Gus
open Go Go.RowKit Go.Proofs
/-- the cells of an entry -/
def ecs (e : Nat × Rat) : List Value := .int .i64 (e.1 : Nat) :: fcs e.2
theorem ecs_length (e : Nat × Rat) : (ecs e).length = 6 := rfl
/-- v is a slice of these entries -/
def RowAt (w : World) (v : Value) (es : List (Nat × Rat)) : Prop :=
  ∃ a cap, v = .slice a es.length cap ∧ ∀ i, i < es.length → ∃ b off, a = some ⟨b, off, none⟩ ∧ b < w.heap.size ∧ ∀ j, j < 6 → w.cell? ⟨b, off + 6 * i + j, none⟩ = (ecs (es.getD i (0, 0)))[j]?
theorem RowAt.below {N : Nat} {w w' : World} {v : Value} {es : List (Nat × Rat)} (h : RowAt w v es) (hN : w.heap.size ≤ N) (hb : Below N w w') : RowAt w' v es := by
  obtain ⟨a, cap, h1, h2⟩ := h
  refine ⟨a, cap, h1, fun i hi => ?_⟩
  obtain ⟨b, off, h3, h4, h5⟩ := h2 i hi
  refine ⟨b, off, h3, Nat.lt_of_lt_of_le h4 hb.size, fun j hj => ?_⟩
  rw [hb.cell (p := ⟨b, off + 6 * i + j, none⟩) (Nat.lt_of_lt_of_le h4 hN)]
  exact h5 j hj
theorem RowAt.call {w w' : World} {v : Value} {es : List (Nat × Rat)} (h : RowAt w v es) (hb : Below w.heap.size w w') : RowAt w' v es := h.below (Nat.le_refl _) hb
theorem RowAt.nil (w : World) (a : Option Addr) (cap : Nat) : RowAt w (.slice a 0 cap) [] := ⟨a, cap, rfl, fun _ hi => absurd hi (Nat.not_lt_zero _)⟩
theorem flat_at : ∀ (es : List (Nat × Rat)) (i j : Nat), i < es.length → j < 6 → (es.flatMap ecs)[6 * i + j]? = (ecs (es.getD i (0, 0)))[j]?
  | [], i, j, h, _ => absurd h (Nat.not_lt_zero _)
  | e :: es, 0, j, _, hj => by
    rw [List.flatMap_cons, Nat.mul_zero, Nat.zero_add, List.getElem?_append_left (by rw [ecs_length]; exact hj)]; rfl
  | e :: es, i + 1, j, h, hj => by
    rw [List.flatMap_cons, List.getElem?_append_right (by rw [ecs_length]; omega), ecs_length, show 6 * (i + 1) + j - 6 = 6 * i + j by omega, flat_at es i j (Nat.lt_of_succ_lt_succ h) hj]; rfl
/-- v is a sparse matrix of these rows -/
def SpAt (w : World) (v : Value) (r c : Nat) (rows : List (List (Nat × Rat))) : Prop :=
  ∃ a cap, v = .agg #[.int .i64 r, .int .i64 c, .slice a rows.length cap] ∧ ∀ i, i < rows.length → ∃ b off x, a = some ⟨b, off, none⟩ ∧ b < w.heap.size ∧ w.cell? ⟨b, off + i, none⟩ = some x ∧ RowAt w x (rows.getD i [])
theorem SpAt.call {w w' : World} {v : Value} {r c : Nat} {rows : List (List (Nat × Rat))} (h : SpAt w v r c rows) (hb : Below w.heap.size w w') : SpAt w' v r c rows := by
  obtain ⟨a, cap, h1, h2⟩ := h
  refine ⟨a, cap, h1, fun i hi => ?_⟩
  obtain ⟨b, off, x, h3, h4, h5, h6⟩ := h2 i hi
  refine ⟨b, off, x, h3, Nat.lt_of_lt_of_le h4 hb.size, ?_, h6.call hb⟩
  rw [hb.cell (p := ⟨b, off + i, none⟩) h4]
  exact h5
/-- a row of one's own is read as a row -/
theorem RowAt.own {w : World} {base : Nat} {e : TypeId} {v : Value} {es : List (Nat × Rat)} (h : w.ownsRow base e 6 v es.length (es.flatMap ecs)) : RowAt w v es := by
  rcases h.2 with ⟨rfl, hn⟩ | ⟨g, cap, cur, rfl, hb, hg, hrest⟩
  · rw [List.length_eq_zero_iff] at hn
    subst hn
    exact RowAt.nil w none 0
  · refine ⟨some ⟨g, 0, none⟩, cap, rfl, fun i hi => ⟨g, 0, rfl, (Array.getElem?_eq_some_iff.1 hg).1, fun j hj => ?_⟩⟩
    have hk := flat_at es i j hi hj
    have hj6 : j < (ecs (es.getD i (0, 0))).length := by rw [ecs_length]; exact hj
    rw [List.getElem?_eq_getElem hj6] at hk ⊢
    have := h.cells (g := g) rfl (6 * i + j) _ hk
    rw [Nat.zero_add, ← this]
    unfold Addr.add
    split <;> simp_all
end Gus
end
section
/- A drawn region by a plan, whose last operations (from number n on) wait for all others: S is asked for behind the others alone. -/
namespace Gus
open Go Go.RowKit
section
variable {P : Program} {ops : Array Oper} {Q : Exit → Act → World → Prop} {md : Region.Mode} {S : World → Prop} {n : Nat}
def wpAnyL (P : Program) (md : Region.Mode) (ops : Array Oper) (Q : Exit → Act → World → Prop) (S : World → Prop) (n : Nat) : Nat → Array Bool → Act → World → Prop
  | 0, listed, a, w => Region.ready md ops listed = [] ∧ Q .normal a w
  | fuel + 1, listed, a, w =>
    (Region.ready md ops listed = [] → Q .normal a w) ∧
    ∀ i ∈ Region.ready md ops listed, wpOp P ops Q i (fun a' w' => (i < n → S w') ∧ wpAnyL P md ops Q S n fuel (listed.setIfInBounds i true) a' w') a w
theorem wpAny_of_L : ∀ (fuel : Nat) (listed : Array Bool) (a : Act) (w : World), wpAnyL P md ops Q S n fuel listed a w → wpAny P md ops Q fuel listed a w
  | 0, _, _, _, h => h
  | fuel + 1, _, _, _, h => ⟨h.1, fun i hi => wpOp_mono (fun a' w' h' => wpAny_of_L fuel _ a' w' h'.2) (h.2 i hi)⟩
theorem wpAnyL_first {i : Nat} {oi : Oper} {v : Value} (hi : ops[i]? = some oi) (hsel : ∀ (j : Nat) (o : Oper) cs b, ops[j]? = some o → o.op ≠ .select cs b)
    (hs : Region.sinkB md ops n = true) (hc : Region.chainB md ops n = true) (hn : n < ops.size) (hin : i < n)
    (hQ : ∀ c a w, Q (.panic c) (a.put oi.dst v) w → Q (.panic c) a w) :
    ∀ (fuel : Nat) (listed : Array Bool) (a : Act) (w : World), HeadInv md ops n listed →
      (∀ j oj, ops[j]? = some oj → j ≠ i → listed.getD j true = false → (∀ e ∈ oj.after, Region.binds md e = true → e.on ≠ i) → oi.apart ops oj = true) →
      i ∈ Region.ready md ops listed → YieldsIf P ops S oi v a → S w →
      wpAnyL P md ops Q S n fuel (listed.setIfInBounds i true) (a.put oi.dst v) w → wpAnyL P md ops Q S n (fuel + 1) listed a w := by
  intro fuel
  induction fuel with
  | zero =>
    intro listed a w inv _ hr hy hS H
    refine ⟨fun h => (by rw [h] at hr; cases hr), fun j hj => ?_⟩
    by_cases hji : j = i
    · subst hji; exact hy.wpOp hi hS ⟨fun _ => hS, H⟩
    · have := ready_mono hj hji
      rw [H.1] at this
      cases this
  | succ fuel ih =>
    intro listed a w inv hfree hr hy hS H
    have hun := (mem_ready.1 hr).1
    refine ⟨fun h => (by rw [h] at hr; cases hr), fun j hj => ?_⟩
    have hjn : j < n := by
      rcases Nat.lt_or_ge j n with h | h
      · exact h
      · exact absurd hj (tail_waits hs hc hn inv _ i rfl hin hun j h)
    by_cases hji : j = i
    · subst hji; exact hy.wpOp hi hS ⟨fun _ => hS, H⟩
    · have h1 := H.2 j (ready_mono hj hji)
      obtain ⟨hjun, oj, hoj, hall⟩ := mem_ready.1 hj
      have hnot : ∀ e ∈ oj.after, Region.binds md e = true → e.on ≠ i := fun e he hb heq => by
        have h1 := hall e he hb
        rw [heq, getD_both hun] at h1
        cases h1
      have h2 := wpOp_putIf hoj (hfree j oj hoj hji hjun hnot) (fun cs b => hsel i oi cs b hi) (fun cs b => hsel j oj cs b hoj) hQ hy h1
      have hfree' : ∀ k ok, ops[k]? = some ok → k ≠ i → (listed.setIfInBounds j true).getD k true = false →
          (∀ e ∈ ok.after, Region.binds md e = true → e.on ≠ i) → oi.apart ops ok = true := fun k ok hk hki hun hno => by
        refine hfree k ok hk hki ?_ hno
        by_cases hjk : j = k
        · subst hjk; exact hjun
        · rw [getD_set_ne true hjk] at hun; exact hun
      refine wpOp_mono (fun a' w' h3 => ⟨h3.2.1, ih (listed.setIfInBounds j true) a' w' (inv.set hj hjn) hfree' (ready_mono hr (Ne.symm hji)) h3.1 (h3.2.1 hjn) ?_⟩) h2
      rw [Array.setIfInBounds_comm _ _ hji]
      exact h3.2.2
/-- the plan: quiet operations (true), loud ones (false); the last ones need no S -/
def wpMixL (P : Program) (ops : Array Oper) (Q : Exit → Act → World → Prop) (S : World → Prop) (n : Nat) : List (Nat × Bool) → Act → World → Prop
  | [], a, w => Q .normal a w
  | (i, true) :: r, a, w => ∃ o v, ops[i]? = some o ∧ YieldsIf P ops S o v a ∧ wpMixL P ops Q S n r (a.put o.dst v) w
  | (i, false) :: r, a, w => wpOp P ops Q i (fun a' w' => (i < n → S w') ∧ wpMixL P ops Q S n r a' w') a w
def mixLB (md : Region.Mode) (ops : Array Oper) (n : Nat) : List (Nat × Bool) → Array Bool → Bool
  | [], listed => (Region.ready md ops listed).isEmpty
  | (i, true) :: r, listed => decide (i < n) && (Region.ready md ops listed).contains i && Region.free md ops listed i && mixLB md ops n r (listed.setIfInBounds i true)
  | (i, false) :: r, listed => decide (Region.ready md ops listed = [i]) && mixLB md ops n r (listed.setIfInBounds i true)
/-- quiet operations stand ahead of the last ones -/
def mixOrd (n : Nat) : List (Nat × Bool) → Bool
  | [] => true
  | (i, b) :: r => (decide (i < n) || (!b && r.all fun p => !p.2)) && mixOrd n r
theorem wpAnyL_of_loud (hs : Region.noSelect ops = true) : ∀ (plan : List (Nat × Bool)) (listed : Array Bool) (a : Act) (w : World), plan.all (fun p => !p.2) = true → mixLB md ops n plan listed = true → wpMixL P ops Q S n plan a w → wpAnyL P md ops Q S n plan.length listed a w
  | [], listed, a, w, _, hB, h => by
    simp only [mixLB, List.isEmpty_iff] at hB
    exact ⟨hB, h⟩
  | (i, true) :: r, listed, a, w, hl, _, _ => by simp at hl
  | (i, false) :: r, listed, a, w, hl, hB, h => by
    simp only [mixLB, Bool.and_eq_true, decide_eq_true_eq] at hB
    simp only [List.all_cons, Bool.and_eq_true] at hl
    refine ⟨fun h0 => absurd (hB.1 ▸ h0) (by simp), fun j hj => ?_⟩
    rw [hB.1] at hj
    obtain rfl : j = i := by simpa using hj
    exact wpOp_mono (fun a' w' h' => ⟨h'.1, wpAnyL_of_loud hs r _ _ _ hl.2 hB.2 h'.2⟩) h
theorem wpAnyL_of_mix (hs : Region.noSelect ops = true) (hk : Region.sinkB md ops n = true) (hc : Region.chainB md ops n = true) (hn : n < ops.size) (hQ : ∀ c a d v w, Q (.panic c) (Act.put a d v) w → Q (.panic c) a w) :
    ∀ (plan : List (Nat × Bool)) (listed : Array Bool) (a : Act) (w : World), HeadInv md ops n listed → mixOrd n plan = true → mixLB md ops n plan listed = true → S w → wpMixL P ops Q S n plan a w → wpAnyL P md ops Q S n plan.length listed a w
  | [], listed, a, w, _, _, hB, _, h => by
    simp only [mixLB, List.isEmpty_iff] at hB
    exact ⟨hB, h⟩
  | (i, true) :: r, listed, a, w, inv, ho, hB, hS, h => by
    simp only [mixLB, Bool.and_eq_true, decide_eq_true_eq] at hB
    simp only [mixOrd, Bool.and_eq_true] at ho
    obtain ⟨o, v, hoi, hy, hk'⟩ := h
    have hr : i ∈ Region.ready md ops listed := by simpa using hB.1.1.2
    exact wpAnyL_first hoi (Region.noSelect_spec hs) hk hc hn hB.1.1.1 (fun c a w h => hQ c a o.dst v w h) _ listed a w inv (Region.free_spec hoi hB.1.2) hr hy hS (wpAnyL_of_mix hs hk hc hn hQ r _ _ _ (inv.set hr hB.1.1.1) ho.2 hB.2 hS hk')
  | (i, false) :: r, listed, a, w, inv, ho, hB, hS, h => by
    simp only [mixLB, Bool.and_eq_true, decide_eq_true_eq] at hB
    simp only [mixOrd, Bool.and_eq_true, Bool.or_eq_true, decide_eq_true_eq] at ho
    refine ⟨fun h0 => absurd (hB.1 ▸ h0) (by simp), fun j hj => ?_⟩
    have hj0 := hj
    rw [hB.1] at hj
    obtain rfl : j = i := by simpa using hj
    refine wpOp_mono (fun a' w' h' => ⟨h'.1, ?_⟩) h
    rcases Nat.lt_or_ge j n with hlt | hge
    · exact wpAnyL_of_mix hs hk hc hn hQ r _ _ _ (inv.set hj0 hlt) ho.2 hB.2 (h'.1 hlt) h'.2
    · rcases ho.1 with h1 | h1
      · omega
      · exact wpAnyL_of_loud hs r _ _ _ h1.2 hB.2 h'.2
theorem mixL_take {i : Nat} {r : List (Nat × Bool)} {o : Oper} {a : Act} {w : World} {v : Value} (ho : ops.toList[i]? = some o) (hw : Region.wanted o (yielded ops a.tmps) = true)
    (h : ∀ w, S w → (execOp a.eval o).run P w = .ok (.value v) w) (hk : wpMixL P ops Q S n r (a.put o.dst v) w) : wpMixL P ops Q S n ((i, true) :: r) a w := ⟨o, v, by rw [← Array.getElem?_toList]; exact ho, .inl ⟨hw, h⟩, hk⟩
theorem mixL_run {i : Nat} {r : List (Nat × Bool)} {o : Oper} {a : Act} {w : World} (ho : ops.toList[i]? = some o) (hw : Region.wanted o (yielded ops a.tmps) = true)
    (h : ∀ K : Act → World → Prop, (∀ a w, (i < n → S w) → wpMixL P ops Q S n r a w → K a w) → o.wp P a w K Q) : wpMixL P ops Q S n ((i, false) :: r) a w := by
  rw [Array.getElem?_toList] at ho
  unfold wpMixL wpOp
  simp only [ho, hw, if_true]
  exact .inl (h _ fun a w hS hk => ⟨hS, hk⟩)
/-- the exits of a loud operation that is walked as a list of one -/
def mixQ (Q : Exit → Act → World → Prop) (K : Act → World → Prop) : Exit → Act → World → Prop
  | .normal, a, w => K a w
  | e, a, w => Q e a w
theorem upon_mixQ {K : Act → World → Prop} {o : Oper} {a : Act} : ∀ (r : Result Next), o.upon P a K (mixQ Q K) r → o.upon P a K Q r
  | .ok (.value _) _, h => h
  | .ok .skip _, h => h
  | .ok (.defer _) _, h => h
  | .ok (.enter _ _) _, h => Calls.mono h fun e _ he => by
    cases e with
    | returned u => exact he
    | panicked c => exact he
    | outgrown => exact he
  | .ok (.row _ _) _, h => h
  | .halt (.panic _) _, h => h
  | .halt (.exit _) _, h => h
  | .ok (.round ..) _, h => h
  | .halt (.unsupported _) _, h => h
  | .halt (.stuck _) _, h => h
/-- a loud operation by a law for lists of operations -/
theorem mixL_list {i : Nat} {r : List (Nat × Bool)} {o : Oper} {a : Act} {w : World} (ho : ops.toList[i]? = some o)
    (h : wpList P ops (mixQ Q fun a' w' => (i < n → S w') ∧ wpMixL P ops Q S n r a' w') [o] a w) : wpMixL P ops Q S n ((i, false) :: r) a w := by
  rw [Array.getElem?_toList] at ho
  unfold wpMixL wpOp
  unfold wpList at h
  simp only [ho]
  split
  · rename_i hw
    rw [if_pos hw] at h
    rcases h with h | ⟨h1, h2⟩
    · exact .inl (upon_mixQ _ h)
    · exact .inr ⟨h1, h2⟩
  · rename_i hw
    rw [if_neg hw] at h
    exact h
theorem mixL_done {a : Act} {w : World} (h : Q .normal a w) : wpMixL P ops Q S n [] a w := h
theorem wp_region_mixL {id : Nat} {a : Act} {w : World} {l : List Oper} (S : World → Prop) (n : Nat) (plan : List (Nat × Bool)) (hm : P.follows .mixedOrders = true) (hs : Region.noSelect l.toArray = true) (hl : plan.length = l.toArray.size)
    (hn : decide (n < l.toArray.size) = true) (hk : Region.sinkB .any l.toArray n = true) (hc : Region.chainB .any l.toArray n = true) (ho : mixOrd n plan = true)
    (hB : mixLB .any l.toArray n plan (Array.replicate l.toArray.size false) = true) (hQ : ∀ c a d v w, Q (.panic c) (Act.put a d v) w → Q (.panic c) a w) (hS : S w.drew) (h : wpMixL P l.toArray Q S n plan a w.drew) : (Code.region id l.toArray true).wp P Q a w := by
  refine wp_region_any hm ?_
  have key := wpAnyL_of_mix (P := P) (Q := Q) (S := S) hs hk hc (by simpa using hn) hQ plan (Array.replicate l.toArray.size false) a w.drew ⟨by simp, fun j oj _ hl => (by rw [getD_replicate_false] at hl; cases hl), fun t _ ht => getD_in (by rw [Array.size_replicate]; exact ht) (getD_replicate_false _ _)⟩ ho hB hS h
  rw [hl] at key
  exact wpAny_of_L (S := S) (n := n) _ _ _ _ key
end
end Gus
end
section
/- Lists of entries: rows as sorted lists. -/
namespace Gus
abbrev Ent := Nat × Rat
/-- the nonzero values of a row, in order -/
def rowOf (g : Nat → Rat) (M : Nat) : List Ent := ((List.range M).filter fun k => g k != 0).map fun k => (k, g k)
theorem mem_rowOf {g : Nat → Rat} {M k : Nat} {q : Rat} : (k, q) ∈ rowOf g M ↔ k < M ∧ g k ≠ 0 ∧ q = g k := by
  unfold rowOf
  simp only [List.mem_map, List.mem_filter, List.mem_range, Prod.mk.injEq, bne_iff_ne, ne_eq]
  constructor
  · rintro ⟨a, ⟨h1, h2⟩, rfl, rfl⟩; exact ⟨h1, h2, rfl⟩
  · rintro ⟨h1, h2, rfl⟩; exact ⟨k, ⟨h1, h2⟩, rfl, rfl⟩
def Asc (es : List Ent) : Prop := es.Pairwise fun a b => a.1 < b.1
theorem rowOf_asc (g : Nat → Rat) (M : Nat) : Asc (rowOf g M) := by
  unfold rowOf Asc
  rw [List.pairwise_map]
  exact List.Pairwise.filter _ List.pairwise_lt_range
theorem rowOf_length (g : Nat → Rat) (M : Nat) : (rowOf g M).length ≤ M := by
  unfold rowOf
  rw [List.length_map]
  exact Nat.le_trans (List.length_filter_le _ _) (by simp)
theorem asc_ext : ∀ {a b : List Ent}, Asc a → Asc b → (∀ x, x ∈ a ↔ x ∈ b) → a = b
  | [], [], _, _, _ => rfl
  | [], y :: b, _, _, h => by have := (h y).2 (.head _); cases this
  | x :: a, [], _, _, h => by have := (h x).1 (.head _); cases this
  | x :: a, y :: b, ha, hb, h => by
    have ha' := List.pairwise_cons.1 ha
    have hb' := List.pairwise_cons.1 hb
    have hxy : x = y := by
      rcases List.mem_cons.1 ((h x).1 (.head _)) with h1 | h1
      · exact h1
      · rcases List.mem_cons.1 ((h y).2 (.head _)) with h2 | h2
        · exact h2.symm
        · have := hb'.1 x h1; have := ha'.1 y h2; omega
    subst hxy
    rw [asc_ext ha'.2 hb'.2 fun z => ?_]
    constructor
    · intro hz
      rcases List.mem_cons.1 ((h z).1 (List.mem_cons_of_mem _ hz)) with h1 | h1
      · subst h1; have := ha'.1 z hz; omega
      · exact h1
    · intro hz
      rcases List.mem_cons.1 ((h z).2 (List.mem_cons_of_mem _ hz)) with h1 | h1
      · subst h1; have := hb'.1 z hz; omega
      · exact h1
/-- no column twice -/
def Onc (es : List Ent) : Prop := es.Pairwise fun a b => a.1 ≠ b.1
theorem onc_perm {a b : List Ent} (h : Onc a) (p : b.Perm a) : Onc b := (List.Perm.pairwise_iff (fun hxy => Ne.symm hxy) p).2 h
theorem asc_of {es : List Ent} (h1 : Onc es) (h2 : es.Pairwise fun a b => ¬ b.1 < a.1) : Asc es :=
  (h1.and h2).imp fun ⟨h1, h2⟩ => by omega
theorem onc_length : ∀ (M : Nat) (es : List Ent), Onc es → (∀ x ∈ es, x.1 < M) → es.length ≤ M
  | 0, es, _, h => by
    cases es with
    | nil => exact Nat.le_refl _
    | cons x es => exact absurd (h x (.head _)) (Nat.not_lt_zero _)
  | M + 1, es, h1, h => by
    have h2 := onc_length M (es.filter fun x => x.1 != M) (List.Pairwise.filter _ h1) (fun x hx => by
      have hx' := List.mem_filter.1 hx
      have := h x hx'.1
      have h3 : x.1 ≠ M := by simpa using hx'.2
      omega)
    have h3 : es.length ≤ (es.filter fun x => x.1 != M).length + 1 := by
      clear h2 h
      induction es with
      | nil => simp
      | cons x es ih =>
        have h1' := List.pairwise_cons.1 h1
        by_cases hx : x.1 = M
        · have hall : es.filter (fun x => x.1 != M) = es := by
            rw [List.filter_eq_self]
            intro y hy
            have := h1'.1 y hy
            simp only [bne_iff_ne, ne_eq]; omega
          rw [List.filter_cons_of_neg (by simp [hx]), hall, List.length_cons]
          exact Nat.le_refl _
        · have := ih h1'.2
          rw [List.filter_cons_of_pos (by simp [hx]), List.length_cons, List.length_cons]; omega
    omega
/-- the rows of a map whose entries outside lf have come -/
def Cnt (f : Nat → Nat → Rat) (N M : Nat) (lf : Nat → Nat → Bool) (Ls : Nat → List Ent) : Prop :=
  ∀ i, i < N → Onc (Ls i) ∧ ∀ k q, (k, q) ∈ Ls i ↔ (k < M ∧ f i k ≠ 0 ∧ q = f i k) ∧ lf i k = false
def updF (Ls : Nat → List Ent) (i : Nat) (es : List Ent) : Nat → List Ent := fun j => if j = i then es else Ls j
theorem updF_same (Ls : Nat → List Ent) (i : Nat) (es : List Ent) : updF Ls i es i = es := by unfold updF; rw [if_pos rfl]
theorem updF_ne (Ls : Nat → List Ent) {i j : Nat} (es : List Ent) (h : j ≠ i) : updF Ls i es j = Ls j := by unfold updF; rw [if_neg h]
theorem Cnt.start {f : Nat → Nat → Rat} {N M : Nat} {lf : Nat → Nat → Bool} (h : ∀ i k, i < N → k < M → f i k ≠ 0 → lf i k = true) : Cnt f N M lf (fun _ => []) := by
  intro i hi
  refine ⟨.nil, fun k q => ⟨fun h => absurd h List.not_mem_nil, fun ⟨⟨h1, h2, _⟩, h3⟩ => ?_⟩⟩
  rw [h i k hi h1 h2] at h3; cases h3
theorem Cnt.step {f : Nat → Nat → Rat} {N M : Nat} {lf lf' : Nat → Nat → Bool} {Ls : Nat → List Ent} (h : Cnt f N M lf Ls) {i0 k0 : Nat} (hi0 : i0 < N) (hk0 : k0 < M) (hf : f i0 k0 ≠ 0) (hl : lf i0 k0 = true)
    (hl' : ∀ i k, i < N → k < M → lf' i k = (lf i k && !(decide (i = i0 ∧ k = k0)))) : Cnt f N M lf' (updF Ls i0 (Ls i0 ++ [(k0, f i0 k0)])) := by
  intro i hi
  obtain ⟨h1, h2⟩ := h i hi
  by_cases he : i = i0
  · subst he
    rw [updF_same]
    constructor
    · unfold Onc
      rw [List.pairwise_append]
      refine ⟨h1, by simp, fun x hx y hy => ?_⟩
      have hy' : y = (k0, f i k0) := by simpa using hy
      subst hy'
      intro hxk
      have := (h2 x.1 x.2).1 hx
      rw [hxk] at this
      simp only at this
      rw [hl] at this; exact absurd this.2 (by decide)
    · intro k q
      rw [List.mem_append, List.mem_singleton, h2 k q, Prod.mk.injEq]
      constructor
      · rintro (⟨⟨a, b, c⟩, d⟩ | ⟨rfl, rfl⟩)
        · exact ⟨⟨a, b, c⟩, by rw [hl' i k hi a, d]; rfl⟩
        · exact ⟨⟨hk0, hf, rfl⟩, by rw [hl' i k hi hk0]; simp⟩
      · rintro ⟨⟨a, b, c⟩, d⟩
        by_cases hk : k = k0
        · subst hk; exact .inr ⟨rfl, c⟩
        · refine .inl ⟨⟨a, b, c⟩, ?_⟩
          rw [hl' i k hi a] at d
          simpa [hk] using d
  · rw [updF_ne _ _ he]
    refine ⟨h1, fun k q => ?_⟩
    rw [h2 k q]
    constructor
    · rintro ⟨⟨a, b, c⟩, d⟩
      exact ⟨⟨a, b, c⟩, by rw [hl' i k hi a, d]; rfl⟩
    · rintro ⟨⟨a, b, c⟩, d⟩
      refine ⟨⟨a, b, c⟩, ?_⟩
      rw [hl' i k hi a] at d
      simpa [he] using d
theorem Cnt.length {f : Nat → Nat → Rat} {N M : Nat} {lf : Nat → Nat → Bool} {Ls : Nat → List Ent} (h : Cnt f N M lf Ls) {i : Nat} (hi : i < N) : (Ls i).length ≤ M :=
  onc_length M _ (h i hi).1 fun x hx => ((h i hi).2 x.1 x.2).1 hx |>.1.1
/-- the row sorted -/
theorem Cnt.sorted {f : Nat → Nat → Rat} {N M : Nat} {lf : Nat → Nat → Bool} {Ls : Nat → List Ent} (h : Cnt f N M lf Ls) {i : Nat} (hi : i < N) (hl : ∀ k, k < M → lf i k = false) {es : List Ent} (hp : es.Perm (Ls i)) (hs : es.Pairwise fun a b => ¬ b.1 < a.1) : es = rowOf (f i) M := by
  refine asc_ext (asc_of (onc_perm (h i hi).1 hp) hs) (rowOf_asc _ _) fun ⟨k, q⟩ => ?_
  rw [hp.mem_iff, (h i hi).2 k q, mem_rowOf]
  constructor
  · exact fun ⟨a, _⟩ => a
  · exact fun a => ⟨a, hl k a.1⟩
end Gus
end
