/- Proved here: parts of the proof: Itm Eql Pur Mal Mea. Conditions: those that each theorem states. -/
import Derived.Test.YtakblfhmllgepaaGreatDoorPrtBQ
import Derived.Test.YtakblfhmllgepaaGreatDoorSmaQ
section
/- sparses.Items. -/
namespace Gus
open Go Go.RowKit Go.Proofs
theorem info_item : (Tryz.prog.info? 60).map (fun i => (i.zero, i.size, i.bytes)) = some (some (.agg #[.int .i64 0, .int .i64 0, .int .u64 0, .string ⟨#[]⟩, .bool false, .int .u64 0, .string ⟨#[]⟩]), 7, 72) := by kernel_rfl
def itl (L : List Itm) : List Value := L.flatMap ics
theorem itl_length (L : List Itm) : (itl L).length = L.length * 7 := by
  induction L with
  | nil => rfl
  | cons x L ih => unfold itl at ih ⊢; rw [List.flatMap_cons, List.length_append, ih, List.length_cons]; show 7 + _ = _; omega
theorem itl_at : ∀ (L : List Itm) (i j : Nat), i < L.length → j < 7 → (itl L)[i * 7 + j]? = (ics (L.getD i (0, 0, 0)))[j]?
  | [], i, j, h, _ => absurd h (Nat.not_lt_zero _)
  | x :: L, 0, j, _, hj => by
    unfold itl
    rw [List.flatMap_cons, Nat.zero_mul, Nat.zero_add, List.getElem?_append_left (by exact hj)]; rfl
  | x :: L, i + 1, j, h, hj => by
    have := itl_at L i j (Nat.lt_of_succ_lt_succ h) hj
    unfold itl at this ⊢
    rw [List.flatMap_cons, List.getElem?_append_right (by show 7 ≤ _; omega), show (i + 1) * 7 + j - (ics x).length = i * 7 + j by show (i + 1) * 7 + j - 7 = _; omega, this]; rfl
theorem itsAt_own {w : World} {base : Nat} {a : Option Addr} {cap : Nat} {L : List Itm} (h : w.ownsRow base 60 7 (.slice a L.length cap) L.length (itl L)) : ItsAt w a L := fun i hi => by
  rcases h.2 with ⟨_, hn⟩ | ⟨g, cap, cur, hv, hb, hg, hrest⟩
  · omega
  · simp only [Value.slice.injEq] at hv
    refine ⟨g, 0, hv.1, (Array.getElem?_eq_some_iff.1 hg).1, fun j hj => ?_⟩
    have hk := itl_at L i j hi hj
    have hj7 : j < (ics (L.getD i (0, 0, 0))).length := hj
    rw [List.getElem?_eq_getElem hj7] at hk ⊢
    have := h.cells (g := g) (by rw [hv.1]; rfl) (i * 7 + j) _ hk
    rw [Nat.zero_add, ← this]
    unfold Addr.add
    split <;> simp_all
end Gus
end
section
/- The items of a dense matrix's sparse form, in order; results of both Parts together. -/
namespace Gus
open Go Go.RowKit Go.Proofs
theorem itemsF_append : ∀ (A B : List (List Ent)) (i : Nat), itemsF i (A ++ B) = itemsF i A ++ itemsF (i + A.length) B
  | [], B, i => by simp [itemsF]
  | x :: A, B, i => by
    rw [List.cons_append, itemsF, itemsF, itemsF_append A B (i + 1), List.append_assoc, List.length_cons, show i + 1 + A.length = i + (A.length + 1) by omega]
theorem mrows_succ (r c : Nat) (f : Nat → Nat → Rat) : mrows (r + 1) c f = mrows r c f ++ [rowOf (f r) c] := by
  unfold mrows rowsL
  rw [List.range_succ, List.map_append, List.map_singleton]
/-- what sparses.Part gives, whether or not the indices are in range -/
def PRes (bad : Bool) (nr nc : Nat) (F : Nat → Nat → Rat) (w : World) (v : Value) (e : Int) : Prop :=
  (∃ pn pm pa pl pk, v = .agg #[.int .i64 pn, .int .i64 pm, .slice pa pl pk]) ∧ ((bad = true ∧ e = 1 ∧ v = zeroSp) ∨ (bad = false ∧ e = 0 ∧ SpM w v nr nc F))
def DRes (bad : Bool) (nr nc : Nat) (F : Nat → Nat → Rat) (w : World) (v : Value) (e : Int) : Prop :=
  (∃ pn pm pa pl pk, v = .agg #[.int .i64 pn, .int .i64 pm, .slice pa pl pk]) ∧ ((bad = true ∧ e = 1 ∧ v = zeroSp) ∨ (bad = false ∧ e = 0 ∧ MatAt w v nr nc (dense nr nc F)))
theorem PRes.call {bad : Bool} {nr nc : Nat} {F : Nat → Nat → Rat} {w w' : World} {v : Value} {e : Int} (h : PRes bad nr nc F w v e) (hb : Below w.heap.size w w') : PRes bad nr nc F w' v e :=
  ⟨h.1, h.2.imp id fun h => ⟨h.1, h.2.1, h.2.2.call hb⟩⟩
theorem DRes.call {bad : Bool} {nr nc : Nat} {F : Nat → Nat → Rat} {w w' : World} {v : Value} {e : Int} (h : DRes bad nr nc F w v e) (hb : Below w.heap.size w w') : DRes bad nr nc F w' v e :=
  ⟨h.1, h.2.imp id fun h => ⟨h.1, h.2.1, h.2.2.call hb⟩⟩
end Gus
end
