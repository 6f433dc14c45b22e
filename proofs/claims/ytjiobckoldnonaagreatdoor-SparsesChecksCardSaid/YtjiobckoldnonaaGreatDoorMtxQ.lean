/- Proved here: parts of the proof: Mtx Sml Ofd Msm Dns Dnb Lof Sma. Conditions: those that each theorem states. -/
import Derived.Test.YtjiobckoldnonaaGreatDoorSameQ
import Derived.Handy
section
/- The laws' matrices: (gussetlaw13.M).Of; a dense matrix as it is read. -/
namespace Gus
open Go Go.RowKit Go.Proofs
theorem VecAt.own {w : World} {base : Nat} {e : TypeId} {v : Value} {qs : List Rat} (h : w.ownsRow base e 5 v qs.length (fcl qs)) : VecAt w v qs := by
  rcases h.2 with ⟨rfl, hn⟩ | ⟨g, cap, cur, rfl, hb, hg, hrest⟩
  · rw [List.length_eq_zero_iff] at hn
    subst hn
    exact VecAt.nil w none 0
  · refine ⟨some ⟨g, 0, none⟩, cap, rfl, fun i hi => ⟨g, 0, rfl, (Array.getElem?_eq_some_iff.1 hg).1, fun j hj => ?_⟩⟩
    have hk := fcl_at qs i j hi hj
    have hj5 : j < (fcs (qs.getD i 0)).length := hj
    rw [List.getElem?_eq_getElem hj5] at hk ⊢
    have := h.cells (g := g) rfl (i * 5 + j) _ hk
    rw [Nat.zero_add, ← this]
    unfold Addr.add
    split <;> simp_all
/-- a dense matrix: its sides, its elements row by row -/
def MatAt (w : World) (v : Value) (r c : Nat) (qs : List Rat) : Prop := ∃ x, v = .agg #[.int .i64 r, .int .i64 c, x] ∧ qs.length = r * c ∧ VecAt w x qs
theorem MatAt.call {w w' : World} {v : Value} {r c : Nat} {qs : List Rat} (h : MatAt w v r c qs) (hb : Below w.heap.size w w') : MatAt w' v r c qs :=
  let ⟨x, h1, h2, h3⟩ := h; ⟨x, h1, h2, h3.call hb⟩
theorem MatAt.shape {w : World} {v : Value} {r c : Nat} {qs : List Rat} (h : MatAt w v r c qs) : ∃ a cap, v = .agg #[.int .i64 r, .int .i64 c, .slice a qs.length cap] := by
  obtain ⟨x, rfl, _, h3⟩ := h
  obtain ⟨a, cap, rfl⟩ := h3.shape
  exact ⟨a, cap, rfl⟩
end Gus
end
section
/- The dense form's elements; the closure that stores an entry. -/
namespace Gus
open Go Go.RowKit Go.Proofs
/-- the elements of a dense form of which these entries are not yet stored -/
def den (r c : Nat) (f : Nat → Nat → Rat) (t : List (Nat × Nat × Rat)) : List Rat := (List.range (r * c)).map fun p => if t.any (fun x => x.1 * c + x.2.1 == p) then 0 else f (p / c) (p % c)
def dense (r c : Nat) (f : Nat → Nat → Rat) : List Rat := (List.range (r * c)).map fun p => f (p / c) (p % c)
end Gus
end
section
/- gussetlaw16.SparsesSame. -/
namespace Gus
open Go Go.RowKit Go.Proofs
section
variable {P : Program} {ops : Array Oper} {w0 : World} {A : (Nat → Value) → Act} {T : Act → World → Prop} {i : Nat} {o : Oper} {os : List Oper} {V : Nat → (Nat → Value) → Value → World → Prop} {Φ : Nat → Bool}
end
theorem QAt.call {w w' : World} {a : Option Addr} {qs : List (Int × Int)} (h : QAt w a qs) (hb : Below w.heap.size w w') : QAt w' a qs := fun i hi => by
  obtain ⟨b, off, h1, h2, h3, h4⟩ := h i hi
  exact ⟨b, off, h1, Nat.lt_of_lt_of_le h2 hb.size, by rw [hb.cell (p := ⟨b, _, none⟩) h2]; exact h3, by rw [hb.cell (p := ⟨b, _, none⟩) h2]; exact h4⟩
/-- a row of fractions, with room behind them -/
def VRow (w : World) (g : Nat) (qs : List Rat) : Prop := ∃ rest, Bx w g 56 (fcl qs ++ rest)
theorem VRow.call {w w' : World} {g : Nat} {qs : List Rat} (h : VRow w g qs) (hb : Below w.heap.size w w') : VRow w' g qs := let ⟨r, h⟩ := h; ⟨r, h.call hb⟩
theorem VRow.own {w : World} {base n : Nat} {v : Value} {qs : List Rat} (h : w.ownsRow base 56 5 v n (fcl qs)) (hn : 0 < n) : ∃ g cap, v = .slice (some ⟨g, 0, none⟩) n cap ∧ base ≤ g ∧ VRow w g qs := by
  rcases h.2 with ⟨_, h0⟩ | ⟨g, cap, cur, rfl, hb, hg, _, _, _, ht⟩
  · omega
  · refine ⟨g, cap, rfl, hb, cur.toList.drop (n * 5), ?_⟩
    unfold Bx
    rw [← ht, List.take_append_drop, hg]
theorem VRow.other {w : World} {g : Nat} {qs : List Rat} {a : Addr} (h : VRow w g qs) (hne : a.block ≠ g) (u : Value) : VRow (w.setCell a u) g qs := let ⟨r, h⟩ := h; ⟨r, h.other hne u⟩
theorem fcl_at_app (qs : List Rat) (rest : List Value) {i j : Nat} (hi : i < qs.length) (hj : j < 5) : (fcl qs ++ rest)[i * 5 + j]? = (fcs (qs.getD i 0))[j]? := by
  rw [List.getElem?_append_left (by rw [fcl_length]; omega), fcl_at qs i j hi hj]
theorem VRow.at {w : World} {g : Nat} {qs : List Rat} (h : VRow w g qs) (n : Nat) (hn : n = qs.length) (cap : Nat) : VecAt w (.slice (some ⟨g, 0, none⟩) n cap) qs := by
  subst hn
  obtain ⟨rest, h⟩ := h
  exact ⟨_, _, rfl, fun i hi => ⟨g, 0, rfl, h.lt, fun j hj => by rw [h.cell, Nat.zero_add, fcl_at_app qs rest hi hj]⟩⟩
theorem VRow.cells {w : World} {g : Nat} {qs : List Rat} (h : VRow w g qs) {i : Nat} (hi : i < qs.length) : ∃ A1 A2 A3 A4 A5, fracV (qs.getD i 0) = .agg #[.int .u64 A1, .string A2, .bool A3, .int .u64 A4, .string A5] ∧
    w.cell? ⟨g, i * 5, none⟩ = some (.int .u64 A1) ∧ w.cell? ⟨g, i * 5 + 1, none⟩ = some (.string A2) ∧ w.cell? ⟨g, i * 5 + 2, none⟩ = some (.bool A3) ∧ w.cell? ⟨g, i * 5 + 3, none⟩ = some (.int .u64 A4) ∧ w.cell? ⟨g, i * 5 + 4, none⟩ = some (.string A5) ∧
    w.frozen? ⟨g, i * 5, none⟩ = false ∧ w.frozen? ⟨g, i * 5 + 1, none⟩ = false ∧ w.frozen? ⟨g, i * 5 + 2, none⟩ = false ∧ w.frozen? ⟨g, i * 5 + 3, none⟩ = false ∧ w.frozen? ⟨g, i * 5 + 4, none⟩ = false := by
  obtain ⟨rest, h⟩ := h
  have hc := fun j hj => (h.cell (i * 5 + j)).trans (fcl_at_app qs rest hi hj)
  exact ⟨_, _, _, _, _, rfl, hc 0 (by decide), hc 1 (by decide), hc 2 (by decide), hc 3 (by decide), hc 4 (by decide), h.frozen _, h.frozen _, h.frozen _, h.frozen _, h.frozen _⟩
/-- a store into a dense matrix's own variable leaves the elements of every matrix -/
theorem VecAt.apart {w : World} {v x : Value} {qs : List Rat} {S n k : Nat} {p q : Int} {ao : Option Addr} (h : VecAt w v qs) (hS : Bx w S 78 [.int .i64 p, .int .i64 q, .slice ao n k]) (j : Nat) : VecAt (w.setCell ⟨S, j, none⟩ x) v qs := by
  obtain ⟨a, cap, h1, h2⟩ := h
  refine ⟨a, cap, h1, fun i hi => ?_⟩
  obtain ⟨b, off, h3, h4, h5⟩ := h2 i hi
  have hne : b ≠ S := fun e => by
    subst e
    have h6 := h5 0 (by decide)
    rw [hS.cell] at h6
    have h7 : (fcs (qs.getD i 0))[0]? = some (.int .u64 (lo (qs.getD i 0).num.natAbs)) := rfl
    rw [h7] at h6
    generalize off + i * 5 + 0 = t at h6
    match t, h6 with
    | 0, h6 => simp at h6
    | 1, h6 => simp at h6
    | 2, h6 => simp at h6
    | t + 3, h6 => simp at h6
  exact ⟨b, off, h3, by rw [World.size_setCell]; exact h4, fun j' hj => by rw [World.cell?_setCell_other _ _ _ _ (by intro e; injection e with e1 e2; exact hne e1.symm)]; exact h5 j' hj⟩
theorem VecAt.all {w : World} {n k : Nat} {a : Addr} {qs : List Rat} (h : VecAt w (.slice (some a) n k) qs) (j : Nat) (u : Value) (hj : (fcl qs)[j]? = some u) : w.cell? (a.add j) = some u := by
  obtain ⟨a', cap, h1, h2⟩ := h
  injection h1 with e1
  subst e1
  have hlt : j < qs.length * 5 := by
    have := (List.getElem?_eq_some_iff.1 hj).1
    rw [fcl_length] at this; exact this
  obtain ⟨b, off, h3, _, h5⟩ := h2 (j / 5) (by omega)
  injection h3 with h3
  subst h3
  have h6 := h5 (j % 5) (by omega)
  rw [← fcl_at qs (j / 5) (j % 5) (by omega) (by omega), show j / 5 * 5 + j % 5 = j by omega, hj, show off + j / 5 * 5 + j % 5 = off + j by omega] at h6
  rw [Addr.add_lit]
  exact h6
theorem MatAt.other {w : World} {ab ao L k r c g : Nat} {p q : Value} {qs : List Rat} (h : MatAt w (.agg #[p, q, .slice (some ⟨ab, ao, none⟩) L k]) r c qs) (hne : g ≠ ab) (j : Nat) (u : Value) : MatAt (w.setCell ⟨g, j, none⟩ u) (.agg #[p, q, .slice (some ⟨ab, ao, none⟩) L k]) r c qs := by
  obtain ⟨x, h1, h2, h3⟩ := h
  have h5 := h1
  simp only [Value.agg.injEq] at h1
  have h4 := congrArg Array.toList h1
  simp only [List.cons.injEq, and_true] at h4
  obtain ⟨a, cap, e1, e2⟩ := h3
  refine ⟨x, h5, h2, a, cap, e1, fun i hi => ?_⟩
  obtain ⟨b, off, e3, e4, e5⟩ := e2 i hi
  rw [← h4.2.2] at e1
  simp only [Value.slice.injEq] at e1
  obtain ⟨e1, _⟩ := e1
  rw [e3] at e1
  simp only [Option.some.injEq, Addr.mk.injEq, and_true] at e1
  exact ⟨b, off, e3, by rw [World.size_setCell]; exact e4, fun j' hj => by rw [World.cell?_setCell_other _ _ _ _ (by intro e; injection e with e6 e7; exact hne (e6.trans e1.1.symm))]; exact e5 j' hj⟩
theorem MatAt.len {w : World} {p q : Value} {a : Option Addr} {L k r c : Nat} {qs : List Rat} (h : MatAt w (.agg #[p, q, .slice a L k]) r c qs) : L = r * c := by
  obtain ⟨x, h1, h2, h3⟩ := h
  obtain ⟨a', k', rfl⟩ := h3.shape
  simp only [Value.agg.injEq] at h1
  have h4 := congrArg Array.toList h1
  simp only [List.cons.injEq, Value.slice.injEq, and_true] at h4
  omega
end Gus
end
