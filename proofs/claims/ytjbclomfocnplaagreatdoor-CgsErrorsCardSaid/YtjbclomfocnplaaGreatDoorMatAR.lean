/- Proved here: parts of the proof: MatA Some SpB. Conditions: those that each theorem states. -/
import Derived.Test.YtjbclomfocnplaaGreatDoorMapR
import Derived.IntWalk
import Derived.Deep.CutBlock
import Derived.WalkMore
section
/- A statement's matrix: gussetlaw13.Some. -/
namespace Gus
open Go Go.RowKit Go.Proofs
def fcs (q : Rat) : List Value := [.int .u64 (lo q.num.natAbs), .string (bg q.num.natAbs), .bool (decide (q.num < 0)), .int .u64 (lo (q.den - 1)), .string (bg (q.den - 1))]
def fcl (qs : List Rat) : List Value := qs.flatMap fcs
theorem fcl_length (qs : List Rat) : (fcl qs).length = qs.length * 5 := by
  unfold fcl
  induction qs with
  | nil => rfl
  | cons q qs ih => rw [List.flatMap_cons, List.length_append, ih, List.length_cons]; simp [fcs]; omega
/-- the elements of a statement's slice of fractions -/
def QAt (w : World) (a : Option Addr) (qs : List (Int × Int)) : Prop :=
  ∀ i, i < qs.length → ∃ b off, a = some ⟨b, off, none⟩ ∧ b < w.heap.size ∧ w.cell? ⟨b, off + 2 * i, none⟩ = some (.int .i64 (qs.getD i (0, 0)).1) ∧ w.cell? ⟨b, off + 2 * i + 1, none⟩ = some (.int .u32 (qs.getD i (0, 0)).2)
def QOk (qs : List (Int × Int)) : Prop := ∀ p ∈ qs, -9223372036854775808 ≤ p.1 ∧ p.1 < 9223372036854775808 ∧ 0 ≤ p.2 ∧ p.2 < 4294967296
/-- the elements, with zeros for missing ones -/
def mEl (qs : List (Int × Int)) (i : Nat) : Rat := qOf (qs.getD i (0, 0)).1 (qs.getD i (0, 0)).2
def mList (qs : List (Int × Int)) (k : Nat) : List Rat := (List.range k).map (mEl qs)
theorem mList_length (qs : List (Int × Int)) (k : Nat) : (mList qs k).length = k := by simp [mList]
theorem ownsRow_setCell_low {w : World} {base : Nat} {e : TypeId} {size : Nat} {v : Value} {n : Nat} {xs : List Value} (h : w.ownsRow base e size v n xs) {a : Addr} (ha : a.block < base) (u : Value) : (w.setCell a u).ownsRow base e size v n xs := by
  refine ⟨h.1, ?_⟩
  rcases h.2 with hn | ⟨g, cap, cur, rfl, hb, hgg, rest⟩
  · exact .inl hn
  · refine .inr ⟨g, cap, cur, rfl, hb, ?_, rest⟩
    rw [Below.heap_setCell w a u g (by omega)]
    exact hgg
theorem info_frac : (Tryz.prog.info? 52).map (fun i => (i.zero, i.size, i.bytes)) = some (some (.agg #[.int .u64 0, .string ⟨#[]⟩, .bool false, .int .u64 0, .string ⟨#[]⟩]), 5, 56) := by kernel_rfl
section
variable {P : Program} {ops : Array Oper} {w0 : World} {A : (Nat → Value) → Act} {T : Act → World → Prop} {i : Nat} {o : Oper} {os : List Oper} {V : Nat → (Nat → Value) → Value → World → Prop} {Φ : Nat → Bool}
/-- a new slice -/
def NewS (N : Nat) (T : TypeId) (zs : List Value) (n : Nat) (x : Value) (w : World) : Prop := ∃ b, x = .slice (some ⟨b, 0, none⟩) n n ∧ N ≤ b ∧ Bx w b T zs
theorem stable_newS (N : Nat) (T : TypeId) (zs : List Value) (n : Nat) : Stable (NewS N T zs n) := fun _ _ _ ⟨b, h1, h2, h3⟩ hs => ⟨b, h1, h2, h3.call hs⟩
theorem placed_newS (φ : Bool) (N : Nat) (T : TypeId) (zs : List Value) (n : Nat) : Placed φ (NewS N T zs n) := fun _ x w ⟨b, h1, h2, h3⟩ c hc => by
  subst h1; cases hc; exact h3.lt
theorem flow_slice {t : TypeId} {zs : Array Value} {n : Nat} (hg : o.guard = none) (hf : fl o = false) (h : ∀ u w, St w0 w → depH V u w o.after.toList → (execOp (A u).eval o).run P w = .ok (.value (.slice (some ⟨w.heap.size, 0, none⟩) n n)) (w.alloc (.cells zs t)))
    (k : flow P ops w0 A T (i + 1) os (ext V i (NewS w0.heap.size t zs.toList n)) (extB Φ i true)) : flow P ops w0 A T i (o :: os) V Φ :=
  ⟨fun _ => _, true, fun _ => stable_newS _ _ _ _, fun _ => placed_newS _ _ _ _ _, local_const _ _, fun u w hw hd => by
    unfold okOp
    rw [if_pos (by unfold Region.wanted; rw [hg]), h u w hw hd]
    exact ⟨⟨⟨w.heap.size, rfl, hw.size, Bx.new _ _ _⟩, fun _ b hb => by cases hb; exact Nat.le_refl _⟩, (Below.refl _ _).alloc (Nat.le_refl _) _⟩, fun h0 => absurd h0 (by rw [hf]; exact Bool.false_ne_true), k⟩
end
end Gus
end
section
/- Rows of entries and sparse matrices, as they are read. -/
namespace Gus
open Go Go.RowKit Go.Proofs
/-- the cells of an entry -/
def ecs (e : Nat × Rat) : List Value := .int .i64 (e.1 : Nat) :: fcs e.2
theorem ecs_length (e : Nat × Rat) : (ecs e).length = 6 := rfl
/-- v is a slice of these entries -/
def RowAt (w : World) (v : Value) (es : List (Nat × Rat)) : Prop :=
  ∃ a cap, v = .slice a es.length cap ∧ ∀ i, i < es.length → ∃ b off, a = some ⟨b, off, none⟩ ∧ b < w.heap.size ∧ ∀ j, j < 6 → w.cell? ⟨b, off + 6 * i + j, none⟩ = (ecs (es.getD i (0, 0)))[j]?
theorem RowAt.below {N : Nat} {w w' : World} {v : Value} {es : List (Nat × Rat)} (h : RowAt w v es) (hN : w.heap.size ≤ N) (hb : Below N w w') : RowAt w' v es := by
  obtain ⟨a, cap, h1, h2⟩ := h
  refine ⟨a, cap, h1, fun i hi => ?_⟩
  obtain ⟨b, off, h3, h4, h5⟩ := h2 i hi
  refine ⟨b, off, h3, Nat.lt_of_lt_of_le h4 hb.size, fun j hj => ?_⟩
  rw [hb.cell (p := ⟨b, off + 6 * i + j, none⟩) (Nat.lt_of_lt_of_le h4 hN)]
  exact h5 j hj
theorem RowAt.call {w w' : World} {v : Value} {es : List (Nat × Rat)} (h : RowAt w v es) (hb : Below w.heap.size w w') : RowAt w' v es := h.below (Nat.le_refl _) hb
theorem RowAt.nil (w : World) (a : Option Addr) (cap : Nat) : RowAt w (.slice a 0 cap) [] := ⟨a, cap, rfl, fun _ hi => absurd hi (Nat.not_lt_zero _)⟩
theorem flat_at : ∀ (es : List (Nat × Rat)) (i j : Nat), i < es.length → j < 6 → (es.flatMap ecs)[6 * i + j]? = (ecs (es.getD i (0, 0)))[j]?
  | [], i, j, h, _ => absurd h (Nat.not_lt_zero _)
  | e :: es, 0, j, _, hj => by
    rw [List.flatMap_cons, Nat.mul_zero, Nat.zero_add, List.getElem?_append_left (by rw [ecs_length]; exact hj)]; rfl
  | e :: es, i + 1, j, h, hj => by
    rw [List.flatMap_cons, List.getElem?_append_right (by rw [ecs_length]; omega), ecs_length, show 6 * (i + 1) + j - 6 = 6 * i + j by omega, flat_at es i j (Nat.lt_of_succ_lt_succ h) hj]; rfl
/-- v is a sparse matrix of these rows -/
def SpAt (w : World) (v : Value) (r c : Nat) (rows : List (List (Nat × Rat))) : Prop :=
  ∃ a cap, v = .agg #[.int .i64 r, .int .i64 c, .slice a rows.length cap] ∧ ∀ i, i < rows.length → ∃ b off x, a = some ⟨b, off, none⟩ ∧ b < w.heap.size ∧ w.cell? ⟨b, off + i, none⟩ = some x ∧ RowAt w x (rows.getD i [])
theorem SpAt.call {w w' : World} {v : Value} {r c : Nat} {rows : List (List (Nat × Rat))} (h : SpAt w v r c rows) (hb : Below w.heap.size w w') : SpAt w' v r c rows := by
  obtain ⟨a, cap, h1, h2⟩ := h
  refine ⟨a, cap, h1, fun i hi => ?_⟩
  obtain ⟨b, off, x, h3, h4, h5, h6⟩ := h2 i hi
  refine ⟨b, off, x, h3, Nat.lt_of_lt_of_le h4 hb.size, ?_, h6.call hb⟩
  rw [hb.cell (p := ⟨b, off + i, none⟩) h4]
  exact h5
/-- a row of one's own is read as a row -/
theorem RowAt.own {w : World} {base : Nat} {e : TypeId} {v : Value} {es : List (Nat × Rat)} (h : w.ownsRow base e 6 v es.length (es.flatMap ecs)) : RowAt w v es := by
  rcases h.2 with ⟨rfl, hn⟩ | ⟨g, cap, cur, rfl, hb, hg, hrest⟩
  · rw [List.length_eq_zero_iff] at hn
    subst hn
    exact RowAt.nil w none 0
  · refine ⟨some ⟨g, 0, none⟩, cap, rfl, fun i hi => ⟨g, 0, rfl, (Array.getElem?_eq_some_iff.1 hg).1, fun j hj => ?_⟩⟩
    have hk := flat_at es i j hi hj
    have hj6 : j < (ecs (es.getD i (0, 0))).length := by rw [ecs_length]; exact hj
    rw [List.getElem?_eq_getElem hj6] at hk ⊢
    have := h.cells (g := g) rfl (6 * i + j) _ hk
    rw [Nat.zero_add, ← this]
    unfold Addr.add
    split <;> simp_all
end Gus
end
