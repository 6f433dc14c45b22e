import Derived.Test.YtjiobckoldnonaaGreatDoorSpB
import Derived.Test.YtjiobckoldnonaaGreatDoorLst
import Derived.Maps.AppendAt
import Derived.Shelf.GgSortFunc.RowK
/- Rows of entries of one's own. -/
namespace Gus
open Go Go.RowKit Go.Proofs
theorem flatE_length (es : List Ent) : (es.flatMap ecs).length = es.length * 6 := by
  induction es with
  | nil => rfl
  | cons e es ih => rw [List.flatMap_cons, List.length_append, ih, List.length_cons, ecs_length]; omega
/-- v is a slice of these entries in a block of its own, at lo or later (ti: whose cells are just its capacity's) -/
def RowIs (w : World) (lo : Nat) (ti : Bool) (v : Value) (es : List Ent) : Prop :=
  (v = .slice none 0 0 ∧ es = []) ∨ ∃ g cap cur, v = .slice (some ⟨g, 0, none⟩) es.length cap ∧ lo ≤ g ∧ w.heap[g]? = some (.cells cur 111 (0, 0)) ∧ es.length ≤ cap ∧ cap ≤ maxLen ∧ cap * 6 ≤ cur.size ∧ (ti = true → cur.size = cap * 6) ∧ cur.toList.take (es.length * 6) = es.flatMap ecs
section
variable {w w' : World} {lo : Nat} {ti : Bool} {v : Value} {es : List Ent}
theorem RowIs.own {base : Nat} (h : w.ownsRow base 111 6 v es.length (es.flatMap ecs)) : RowIs w base true v es := by
  rcases h.2 with ⟨rfl, hn⟩ | ⟨g, cap, cur, rfl, hb, hg, h1, h2, h3, h4⟩
  · exact .inl ⟨rfl, List.length_eq_zero_iff.1 hn⟩
  · exact .inr ⟨g, cap, cur, rfl, hb, hg, h1, h2, by omega, fun _ => h3, h4⟩
theorem RowIs.toOwn (h : RowIs w lo true v es) : w.ownsRow lo 111 6 v es.length (es.flatMap ecs) := by
  refine ⟨flatE_length es, ?_⟩
  rcases h with ⟨rfl, rfl⟩ | ⟨g, cap, cur, rfl, hb, hg, h1, h2, h3, h4, h5⟩
  · exact .inl ⟨rfl, rfl⟩
  · exact .inr ⟨g, cap, cur, rfl, hb, hg, h1, h2, h4 rfl, h5⟩
theorem RowIs.loose (h : RowIs w lo ti v es) : RowIs w lo false v es := by
  rcases h with h | ⟨g, cap, cur, hv, hb, hg, h1, h2, h3, h4, h5⟩
  · exact .inl h
  · exact .inr ⟨g, cap, cur, hv, hb, hg, h1, h2, h3, (fun h => by cases h), h5⟩
theorem RowIs.lt (h : RowIs w lo ti v es) : ∀ k, v.ownBlock = some k → lo ≤ k ∧ k < w.heap.size := by
  intro k hk
  rcases h with ⟨rfl, _⟩ | ⟨g, cap, cur, rfl, hb, hg, _⟩
  · simp [Value.ownBlock] at hk
  · simp [Value.ownBlock] at hk
    subst hk
    exact ⟨hb, (Array.getElem?_eq_some_iff.1 hg).1⟩
theorem RowIs.of_block (h : RowIs w lo ti v es) (hb : ∀ k, v.ownBlock = some k → w'.heap[k]? = w.heap[k]?) : RowIs w' lo ti v es := by
  rcases h with h | ⟨g, cap, cur, rfl, h0, hg, h1⟩
  · exact .inl h
  · exact .inr ⟨g, cap, cur, rfl, h0, (hb g rfl).trans hg, h1⟩
theorem RowIs.kept {row : Option Nat} (h : RowIs w lo ti v es) (hg : w.grownBy w' row) (hne : v.ownBlock = none ∨ v.ownBlock ≠ row) : RowIs w' lo ti v es :=
  h.of_block fun k hk => hg.block k (h.lt k hk).2 (by
    rcases hne with h0 | h0
    · rw [hk] at h0; cases h0
    · rw [hk] at h0; exact h0)
theorem RowIs.below {N : Nat} (h : RowIs w lo ti v es) (hN : w.heap.size ≤ N) (hb : Below N w w') : RowIs w' lo ti v es :=
  h.of_block fun k hk => hb.block k (Nat.lt_of_lt_of_le (h.lt k hk).2 hN)
theorem RowIs.call (h : RowIs w lo ti v es) (hb : Below w.heap.size w w') : RowIs w' lo ti v es := h.below (Nat.le_refl _) hb
theorem RowIs.alloc (h : RowIs w lo ti v es) (o : Obj) : RowIs (w.alloc o) lo ti v es := h.of_block fun k hk => Below.heap_alloc w o k (h.lt k hk).2
theorem RowIs.other {a : Addr} (h : RowIs w lo ti v es) (hne : v.ownBlock ≠ some a.block) (u : Value) : RowIs (w.setCell a u) lo ti v es :=
  h.of_block fun k hk => heap_setCell_other w a k u (fun e => hne (by rw [hk, e]))
theorem RowIs.mono {lo' : Nat} (h : RowIs w lo ti v es) (hl : lo' ≤ lo) : RowIs w lo' ti v es := by
  rcases h with h | ⟨g, cap, cur, rfl, h0, h1⟩
  · exact .inl h
  · exact .inr ⟨g, cap, cur, rfl, by omega, h1⟩
theorem RowIs.at (h : RowIs w lo ti v es) : RowAt w v es := by
  rcases h with ⟨rfl, rfl⟩ | ⟨g, cap, cur, rfl, h0, hg, h1, h2, h3, _, h4⟩
  · exact RowAt.nil w none 0
  · refine ⟨some ⟨g, 0, none⟩, cap, rfl, fun i hi => ⟨g, 0, rfl, (Array.getElem?_eq_some_iff.1 hg).1, fun j hj => ?_⟩⟩
    rw [← flat_at es i j hi hj, cell_of_row w g _ _ _ _ hg, ← h4, List.getElem?_take, if_pos (by omega), Array.getElem?_toList, Nat.zero_add]
end
/-- N rows of one's own, no two in one block -/
structure RowsAre (w : World) (lo : Nat) (ti : Bool) (N : Nat) (vs : List Value) (Ls : Nat → List Ent) : Prop where
  len : vs.length = N
  row : ∀ i, i < N → RowIs w lo ti (vs.getD i undef) (Ls i)
  apart : ∀ i j, i < N → j < N → i ≠ j → ∀ b, (vs.getD i undef).ownBlock = some b → (vs.getD j undef).ownBlock ≠ some b
section
variable {w w' : World} {lo N : Nat} {ti : Bool} {vs : List Value} {Ls : Nat → List Ent}
theorem RowsAre.of_block (h : RowsAre w lo ti N vs Ls) (hb : ∀ i k, i < N → (vs.getD i undef).ownBlock = some k → w'.heap[k]? = w.heap[k]?) : RowsAre w' lo ti N vs Ls :=
  ⟨h.len, fun i hi => (h.row i hi).of_block fun k hk => hb i k hi hk, h.apart⟩
theorem RowsAre.below {M : Nat} (h : RowsAre w lo ti N vs Ls) (hN : w.heap.size ≤ M) (hb : Below M w w') : RowsAre w' lo ti N vs Ls :=
  h.of_block fun i k hi hk => hb.block k (Nat.lt_of_lt_of_le ((h.row i hi).lt k hk).2 hN)
theorem RowsAre.call (h : RowsAre w lo ti N vs Ls) (hb : Below w.heap.size w w') : RowsAre w' lo ti N vs Ls := h.below (Nat.le_refl _) hb
theorem RowsAre.alloc (h : RowsAre w lo ti N vs Ls) (o : Obj) : RowsAre (w.alloc o) lo ti N vs Ls := h.of_block fun i k hi hk => Below.heap_alloc w o k ((h.row i hi).lt k hk).2
theorem RowsAre.other {a : Addr} (h : RowsAre w lo ti N vs Ls) (hne : a.block < lo) (u : Value) : RowsAre (w.setCell a u) lo ti N vs Ls :=
  h.of_block fun i k hi hk => heap_setCell_other w a k u (fun e => by have := ((h.row i hi).lt k hk).1; omega)
/-- one row has turned -/
theorem RowsAre.set (h : RowsAre w lo ti N vs Ls) {i : Nat} (hi : i < N) {v : Value} {es : List Ent} (hr : RowIs w' lo ti v es) (hg : w.grownBy w' (vs.getD i undef).ownBlock) (hv : ∀ b, v.ownBlock = some b → (vs.getD i undef).ownBlock = some b ∨ w.heap.size ≤ b) :
    RowsAre w' lo ti N (vs.set i v) (updF Ls i es) := by
  have hlen := h.len
  have hget : ∀ j, j ≠ i → (vs.set i v).getD j undef = vs.getD j undef := fun j hj => by
    simp only [List.getD_eq_getElem?_getD]; rw [List.getElem?_set_ne (Ne.symm hj)]
  have hgi : (vs.set i v).getD i undef = v := by
    simp only [List.getD_eq_getElem?_getD]; rw [List.getElem?_set_self (by omega)]; rfl
  refine ⟨by rw [List.length_set]; exact hlen, fun j hj => ?_, fun j k hj hk hne b hb => ?_⟩
  · by_cases hji : j = i
    · subst hji; rw [hgi, updF_same]; exact hr
    · rw [hget j hji, updF_ne _ _ hji]
      refine (h.row j hj).kept hg ?_
      cases hb : (vs.getD j undef).ownBlock with
      | none => exact .inl rfl
      | some b => exact .inr (fun e => h.apart j i hj hi hji b hb e.symm)
  · by_cases hji : j = i
    · subst hji
      rw [hgi] at hb
      rw [hget k (Ne.symm hne)]
      intro hk2
      rcases hv b hb with h1 | h1
      · exact h.apart j k hi hk hne b h1 hk2
      · have := ((h.row k hk).lt b hk2).2; omega
    · rw [hget j hji] at hb
      by_cases hki : k = i
      · subst hki
        rw [hgi]
        intro hk2
        rcases hv b hk2 with h1 | h1
        · exact h.apart k j hi hj (Ne.symm hji) b h1 hb
        · have := ((h.row j hj).lt b hb).2; omega
      · rw [hget k hki]; exact h.apart j k hj hk hne b hb
end
theorem RowsAre.loose {w : World} {lo N : Nat} {ti : Bool} {vs : List Value} {Ls : Nat → List Ent} (h : RowsAre w lo ti N vs Ls) : RowsAre w lo false N vs Ls := ⟨h.len, fun i hi => (h.row i hi).loose, h.apart⟩
theorem RowsAre.mono {w : World} {lo lo' N : Nat} {ti : Bool} {vs : List Value} {Ls : Nat → List Ent} (h : RowsAre w lo ti N vs Ls) (hl : lo' ≤ lo) : RowsAre w lo' ti N vs Ls := ⟨h.len, fun i hi => (h.row i hi).mono hl, h.apart⟩
/-- a sparse matrix in blocks of its own -/
def SpOwn (w : World) (lo : Nat) (v : Value) (r c : Nat) (Ls : Nat → List Ent) : Prop :=
  ∃ R vs, v = .agg #[.int .i64 r, .int .i64 c, .slice (some ⟨R, 0, none⟩) r r] ∧ lo ≤ R ∧ Bx w R 107 vs ∧ RowsAre w (R + 1) false r vs Ls
/-- the list of rows -/
def rowsL (r : Nat) (Ls : Nat → List Ent) : List (List Ent) := (List.range r).map Ls
theorem rowsL_length (r : Nat) (Ls : Nat → List Ent) : (rowsL r Ls).length = r := by simp [rowsL]
theorem rowsL_getD {r : Nat} (Ls : Nat → List Ent) {i : Nat} (hi : i < r) : (rowsL r Ls).getD i [] = Ls i := by
  simp [rowsL, List.getD_eq_getElem?_getD, hi]
theorem SpOwn.at {w : World} {lo : Nat} {v : Value} {r c : Nat} {Ls : Nat → List Ent} (h : SpOwn w lo v r c Ls) : SpAt w v r c (rowsL r Ls) := by
  obtain ⟨R, vs, rfl, h1, h2, h3⟩ := h
  refine ⟨some ⟨R, 0, none⟩, r, by rw [rowsL_length], fun i hi => ⟨R, 0, vs.getD i undef, rfl, h2.lt, ?_, ?_⟩⟩
  · rw [rowsL_length] at hi
    rw [h2.cell, Nat.zero_add, List.getD_eq_getElem?_getD, List.getElem?_eq_getElem (by rw [h3.len]; exact hi)]; rfl
  · rw [rowsL_length] at hi
    rw [rowsL_getD Ls hi]
    exact (h3.row i hi).at
theorem SpOwn.call {w w' : World} {lo : Nat} {v : Value} {r c : Nat} {Ls : Nat → List Ent} (h : SpOwn w lo v r c Ls) (hb : Below w.heap.size w w') : SpOwn w' lo v r c Ls := by
  obtain ⟨R, vs, rfl, h1, h2, h3⟩ := h
  exact ⟨R, vs, rfl, h1, h2.call hb, h3.call hb⟩
end Gus
