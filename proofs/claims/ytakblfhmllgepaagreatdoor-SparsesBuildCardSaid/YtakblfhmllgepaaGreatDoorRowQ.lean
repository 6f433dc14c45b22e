/- Proved here: parts of the proof: Row RowB ShelfS ShelfT Sort. Conditions: those that each theorem states. -/
import Derived.Test.YtakblfhmllgepaaGreatDoorBldBQ
import Derived.Maps.AppendAt
import Derived.Shelf.GgSortFunc.RowK
import Derived.Shelf.GgSortFunc.InsertionK
import Derived.Shelf.SlGeneric
import Derived.Shelf.SlSortCmp.WholeK
import Derived.Ground.SlsfProg
import Derived.Test.YtakblfhmllgepaaGreatDoorProg
import Derived.Shelf.Small.Bits
import Derived.Test.YtakblfhmllgepaaGreatDoorShelfA
section
/- Rows of entries of one's own. -/
namespace Gus
open Go Go.RowKit Go.Proofs
theorem flatE_length (es : List Ent) : (es.flatMap ecs).length = es.length * 6 := by
  induction es with
  | nil => rfl
  | cons e es ih => rw [List.flatMap_cons, List.length_append, ih, List.length_cons, ecs_length]; omega
/-- v is a slice of these entries in a block of its own, at lo or later (ti: whose cells are just its capacity's) -/
def RowIs (w : World) (lo : Nat) (ti : Bool) (v : Value) (es : List Ent) : Prop :=
  (v = .slice none 0 0 ∧ es = []) ∨ ∃ g cap cur, v = .slice (some ⟨g, 0, none⟩) es.length cap ∧ lo ≤ g ∧ w.heap[g]? = some (.cells cur 97 (0, 0)) ∧ es.length ≤ cap ∧ cap ≤ maxLen ∧ cap * 6 ≤ cur.size ∧ (ti = true → cur.size = cap * 6) ∧ cur.toList.take (es.length * 6) = es.flatMap ecs
section
variable {w w' : World} {lo : Nat} {ti : Bool} {v : Value} {es : List Ent}
theorem RowIs.own {base : Nat} (h : w.ownsRow base 97 6 v es.length (es.flatMap ecs)) : RowIs w base true v es := by
  rcases h.2 with ⟨rfl, hn⟩ | ⟨g, cap, cur, rfl, hb, hg, h1, h2, h3, h4⟩
  · exact .inl ⟨rfl, List.length_eq_zero_iff.1 hn⟩
  · exact .inr ⟨g, cap, cur, rfl, hb, hg, h1, h2, by omega, fun _ => h3, h4⟩
theorem RowIs.toOwn (h : RowIs w lo true v es) : w.ownsRow lo 97 6 v es.length (es.flatMap ecs) := by
  refine ⟨flatE_length es, ?_⟩
  rcases h with ⟨rfl, rfl⟩ | ⟨g, cap, cur, rfl, hb, hg, h1, h2, h3, h4, h5⟩
  · exact .inl ⟨rfl, rfl⟩
  · exact .inr ⟨g, cap, cur, rfl, hb, hg, h1, h2, h4 rfl, h5⟩
theorem RowIs.loose (h : RowIs w lo ti v es) : RowIs w lo false v es := by
  rcases h with h | ⟨g, cap, cur, hv, hb, hg, h1, h2, h3, h4, h5⟩
  · exact .inl h
  · exact .inr ⟨g, cap, cur, hv, hb, hg, h1, h2, h3, (fun h => by cases h), h5⟩
theorem RowIs.lt (h : RowIs w lo ti v es) : ∀ k, v.ownBlock = some k → lo ≤ k ∧ k < w.heap.size := by
  intro k hk
  rcases h with ⟨rfl, _⟩ | ⟨g, cap, cur, rfl, hb, hg, _⟩
  · simp [Value.ownBlock] at hk
  · simp [Value.ownBlock] at hk
    subst hk
    exact ⟨hb, (Array.getElem?_eq_some_iff.1 hg).1⟩
theorem RowIs.of_block (h : RowIs w lo ti v es) (hb : ∀ k, v.ownBlock = some k → w'.heap[k]? = w.heap[k]?) : RowIs w' lo ti v es := by
  rcases h with h | ⟨g, cap, cur, rfl, h0, hg, h1⟩
  · exact .inl h
  · exact .inr ⟨g, cap, cur, rfl, h0, (hb g rfl).trans hg, h1⟩
theorem RowIs.kept {row : Option Nat} (h : RowIs w lo ti v es) (hg : w.grownBy w' row) (hne : v.ownBlock = none ∨ v.ownBlock ≠ row) : RowIs w' lo ti v es :=
  h.of_block fun k hk => hg.block k (h.lt k hk).2 (by
    rcases hne with h0 | h0
    · rw [hk] at h0; cases h0
    · rw [hk] at h0; exact h0)
theorem RowIs.below {N : Nat} (h : RowIs w lo ti v es) (hN : w.heap.size ≤ N) (hb : Below N w w') : RowIs w' lo ti v es :=
  h.of_block fun k hk => hb.block k (Nat.lt_of_lt_of_le (h.lt k hk).2 hN)
theorem RowIs.call (h : RowIs w lo ti v es) (hb : Below w.heap.size w w') : RowIs w' lo ti v es := h.below (Nat.le_refl _) hb
theorem RowIs.alloc (h : RowIs w lo ti v es) (o : Obj) : RowIs (w.alloc o) lo ti v es := h.of_block fun k hk => Below.heap_alloc w o k (h.lt k hk).2
theorem RowIs.other {a : Addr} (h : RowIs w lo ti v es) (hne : v.ownBlock ≠ some a.block) (u : Value) : RowIs (w.setCell a u) lo ti v es :=
  h.of_block fun k hk => heap_setCell_other w a k u (fun e => hne (by rw [hk, e]))
theorem RowIs.mono {lo' : Nat} (h : RowIs w lo ti v es) (hl : lo' ≤ lo) : RowIs w lo' ti v es := by
  rcases h with h | ⟨g, cap, cur, rfl, h0, h1⟩
  · exact .inl h
  · exact .inr ⟨g, cap, cur, rfl, by omega, h1⟩
theorem RowIs.at (h : RowIs w lo ti v es) : RowAt w v es := by
  rcases h with ⟨rfl, rfl⟩ | ⟨g, cap, cur, rfl, h0, hg, h1, h2, h3, _, h4⟩
  · exact RowAt.nil w none 0
  · refine ⟨some ⟨g, 0, none⟩, cap, rfl, fun i hi => ⟨g, 0, rfl, (Array.getElem?_eq_some_iff.1 hg).1, fun j hj => ?_⟩⟩
    rw [← flat_at es i j hi hj, cell_of_row w g _ _ _ _ hg, ← h4, List.getElem?_take, if_pos (by omega), Array.getElem?_toList, Nat.zero_add]
end
/-- N rows of one's own, no two in one block -/
structure RowsAre (w : World) (lo : Nat) (ti : Bool) (N : Nat) (vs : List Value) (Ls : Nat → List Ent) : Prop where
  len : vs.length = N
  row : ∀ i, i < N → RowIs w lo ti (vs.getD i undef) (Ls i)
  apart : ∀ i j, i < N → j < N → i ≠ j → ∀ b, (vs.getD i undef).ownBlock = some b → (vs.getD j undef).ownBlock ≠ some b
section
variable {w w' : World} {lo N : Nat} {ti : Bool} {vs : List Value} {Ls : Nat → List Ent}
theorem RowsAre.of_block (h : RowsAre w lo ti N vs Ls) (hb : ∀ i k, i < N → (vs.getD i undef).ownBlock = some k → w'.heap[k]? = w.heap[k]?) : RowsAre w' lo ti N vs Ls :=
  ⟨h.len, fun i hi => (h.row i hi).of_block fun k hk => hb i k hi hk, h.apart⟩
theorem RowsAre.below {M : Nat} (h : RowsAre w lo ti N vs Ls) (hN : w.heap.size ≤ M) (hb : Below M w w') : RowsAre w' lo ti N vs Ls :=
  h.of_block fun i k hi hk => hb.block k (Nat.lt_of_lt_of_le ((h.row i hi).lt k hk).2 hN)
theorem RowsAre.call (h : RowsAre w lo ti N vs Ls) (hb : Below w.heap.size w w') : RowsAre w' lo ti N vs Ls := h.below (Nat.le_refl _) hb
theorem RowsAre.alloc (h : RowsAre w lo ti N vs Ls) (o : Obj) : RowsAre (w.alloc o) lo ti N vs Ls := h.of_block fun i k hi hk => Below.heap_alloc w o k ((h.row i hi).lt k hk).2
theorem RowsAre.other {a : Addr} (h : RowsAre w lo ti N vs Ls) (hne : a.block < lo) (u : Value) : RowsAre (w.setCell a u) lo ti N vs Ls :=
  h.of_block fun i k hi hk => heap_setCell_other w a k u (fun e => by have := ((h.row i hi).lt k hk).1; omega)
/-- one row has turned -/
theorem RowsAre.set (h : RowsAre w lo ti N vs Ls) {i : Nat} (hi : i < N) {v : Value} {es : List Ent} (hr : RowIs w' lo ti v es) (hg : w.grownBy w' (vs.getD i undef).ownBlock) (hv : ∀ b, v.ownBlock = some b → (vs.getD i undef).ownBlock = some b ∨ w.heap.size ≤ b) :
    RowsAre w' lo ti N (vs.set i v) (updF Ls i es) := by
  have hlen := h.len
  have hget : ∀ j, j ≠ i → (vs.set i v).getD j undef = vs.getD j undef := fun j hj => by
    simp only [List.getD_eq_getElem?_getD]; rw [List.getElem?_set_ne (Ne.symm hj)]
  have hgi : (vs.set i v).getD i undef = v := by
    simp only [List.getD_eq_getElem?_getD]; rw [List.getElem?_set_self (by omega)]; rfl
  refine ⟨by rw [List.length_set]; exact hlen, fun j hj => ?_, fun j k hj hk hne b hb => ?_⟩
  · by_cases hji : j = i
    · subst hji; rw [hgi, updF_same]; exact hr
    · rw [hget j hji, updF_ne _ _ hji]
      refine (h.row j hj).kept hg ?_
      cases hb : (vs.getD j undef).ownBlock with
      | none => exact .inl rfl
      | some b => exact .inr (fun e => h.apart j i hj hi hji b hb e.symm)
  · by_cases hji : j = i
    · subst hji
      rw [hgi] at hb
      rw [hget k (Ne.symm hne)]
      intro hk2
      rcases hv b hb with h1 | h1
      · exact h.apart j k hi hk hne b h1 hk2
      · have := ((h.row k hk).lt b hk2).2; omega
    · rw [hget j hji] at hb
      by_cases hki : k = i
      · subst hki
        rw [hgi]
        intro hk2
        rcases hv b hk2 with h1 | h1
        · exact h.apart k j hi hj (Ne.symm hji) b h1 hb
        · have := ((h.row j hj).lt b hb).2; omega
      · rw [hget k hki]; exact h.apart j k hj hk hne b hb
end
theorem RowsAre.loose {w : World} {lo N : Nat} {ti : Bool} {vs : List Value} {Ls : Nat → List Ent} (h : RowsAre w lo ti N vs Ls) : RowsAre w lo false N vs Ls := ⟨h.len, fun i hi => (h.row i hi).loose, h.apart⟩
theorem RowsAre.mono {w : World} {lo lo' N : Nat} {ti : Bool} {vs : List Value} {Ls : Nat → List Ent} (h : RowsAre w lo ti N vs Ls) (hl : lo' ≤ lo) : RowsAre w lo' ti N vs Ls := ⟨h.len, fun i hi => (h.row i hi).mono hl, h.apart⟩
/-- a sparse matrix in blocks of its own -/
def SpOwn (w : World) (lo : Nat) (v : Value) (r c : Nat) (Ls : Nat → List Ent) : Prop :=
  ∃ R vs, v = .agg #[.int .i64 r, .int .i64 c, .slice (some ⟨R, 0, none⟩) r r] ∧ lo ≤ R ∧ Bx w R 95 vs ∧ RowsAre w (R + 1) false r vs Ls
/-- the list of rows -/
def rowsL (r : Nat) (Ls : Nat → List Ent) : List (List Ent) := (List.range r).map Ls
theorem rowsL_length (r : Nat) (Ls : Nat → List Ent) : (rowsL r Ls).length = r := by simp [rowsL]
theorem rowsL_getD {r : Nat} (Ls : Nat → List Ent) {i : Nat} (hi : i < r) : (rowsL r Ls).getD i [] = Ls i := by
  simp [rowsL, List.getD_eq_getElem?_getD, hi]
theorem SpOwn.at {w : World} {lo : Nat} {v : Value} {r c : Nat} {Ls : Nat → List Ent} (h : SpOwn w lo v r c Ls) : SpAt w v r c (rowsL r Ls) := by
  obtain ⟨R, vs, rfl, h1, h2, h3⟩ := h
  refine ⟨some ⟨R, 0, none⟩, r, by rw [rowsL_length], fun i hi => ⟨R, 0, vs.getD i undef, rfl, h2.lt, ?_, ?_⟩⟩
  · rw [rowsL_length] at hi
    rw [h2.cell, Nat.zero_add, List.getD_eq_getElem?_getD, List.getElem?_eq_getElem (by rw [h3.len]; exact hi)]; rfl
  · rw [rowsL_length] at hi
    rw [rowsL_getD Ls hi]
    exact (h3.row i hi).at
theorem SpOwn.call {w w' : World} {lo : Nat} {v : Value} {r c : Nat} {Ls : Nat → List Ent} (h : SpOwn w lo v r c Ls) (hb : Below w.heap.size w w') : SpOwn w' lo v r c Ls := by
  obtain ⟨R, vs, rfl, h1, h2, h3⟩ := h
  exact ⟨R, vs, rfl, h1, h2.call hb, h3.call hb⟩
end Gus
end
section
/- Rows of one's own and the library's sort. -/
namespace Gus
open Go Go.RowKit Go.Proofs Go.Sort
theorem flatK_toList (d : Array Ent) : (flatK ecs 6 d).toList = d.toList.flatMap ecs := by
  apply List.ext_getElem?
  intro t
  by_cases ht : t < d.size * 6
  · have h1 : t / 6 < d.toList.length := by simp; omega
    have h2 : t % 6 < 6 := Nat.mod_lt _ (by decide)
    have e : 6 * (t / 6) + t % 6 = t := Nat.div_add_mod t 6
    have h3 := flat_at d.toList (t / 6) (t % 6) h1 h2
    rw [e] at h3
    rw [h3]
    have hs : t < (flatK ecs 6 d).size := by rw [size_flatK]; exact ht
    have h4 := get_flatK ecs 6 d t ht
    rw [getElem!_pos (flatK ecs 6 d) t hs] at h4
    rw [Array.getElem?_toList, Array.getElem?_eq_getElem hs, h4]
    have e2 : d.toList.getD (t / 6) (0, 0) = d[t / 6]! := by
      have h1' : t / 6 < d.size := by simpa using h1
      rw [getElem!_pos d (t / 6) h1', List.getD_eq_getElem?_getD, Array.getElem?_toList, Array.getElem?_eq_getElem h1']; rfl
    rw [e2]
    have h6 : t % 6 < (ecs d[t / 6]!).length := by rw [ecs_length]; exact h2
    rw [getElem!_pos (ecs d[t / 6]!) (t % 6) h6, List.getElem?_eq_getElem h6]
  · rw [List.getElem?_eq_none (by simp; omega), List.getElem?_eq_none (by rw [flatE_length]; simp; omega)]
section
variable {w : World} {lo g cap : Nat} {ti : Bool} {v : Value} {es : List Ent}
theorem RowIs.holds (h : RowIs w lo ti v es) (hv : v = .slice (some ⟨g, 0, none⟩) es.length cap) : HoldsK ecs 6 w g 0 es.toArray := by
  rcases h with ⟨rfl, _⟩ | ⟨g', cap', cur, rfl, h0, hg, h1, h2, h3, h6, h4⟩
  · cases hv
  · cases hv
    intro j hj
    rw [size_flatK] at hj
    have hj' : j < es.length * 6 := by simpa using hj
    refine ⟨?_, frozen_of_row w g _ _ _ hg⟩
    have e := flatK_toList es.toArray
    have hs : j < (flatK ecs 6 es.toArray).size := by rw [size_flatK]; exact hj
    rw [cell_of_row w g _ _ _ _ hg, Nat.zero_add, ← Array.getElem?_toList]
    have : (cur.toList.take (es.length * 6))[j]? = (flatK ecs 6 es.toArray).toList[j]? := by rw [h4, e]
    rw [List.getElem?_take, if_pos hj'] at this
    rw [this, Array.getElem?_toList, Array.getElem?_eq_getElem hs, getElem!_pos (flatK ecs 6 es.toArray) j hs]; rfl
theorem sortWorld_heap (w : World) (g m : Nat) (d : Array Ent) (os : Array Obj) {cur : Array Value} {T : TypeId} (hg : w.heap[g]? = some (.cells cur T (0, 0))) :
    (sortWorldK ecs 6 w g 0 m d os).heap[g]? = some (.cells (putCells id 0 (flatK ecs 6 d) cur) T (0, 0)) := by
  have hlt := (Array.getElem?_eq_some_iff.1 hg).1
  unfold sortWorldK grow putRowK putRow mapBlock Sort.ahead
  simp only
  rw [Array.getElem?_append_left (by simpa using hlt), Array.getElem?_modify, if_pos rfl, hg]; rfl
theorem sortWorld_grown (w : World) (g m : Nat) (d : Array Ent) (os : Array Obj) : w.grownBy (sortWorldK ecs 6 w g 0 m d os) (some g) := by
  unfold sortWorldK grow putRowK putRow mapBlock Sort.ahead
  refine ⟨rfl, rfl, rfl, by simp, fun k hk hne => ?_⟩
  simp only
  rw [Array.getElem?_append_left (by simpa using hk), Array.getElem?_modify, if_neg (fun e => hne (by rw [e]))]
theorem RowIs.sorted (h : RowIs w lo ti v es) (hv : v = .slice (some ⟨g, 0, none⟩) es.length cap) (m : Nat) (d : Array Ent) (os : Array Obj) (hd : d.size = es.length) : RowIs (sortWorldK ecs 6 w g 0 m d os) lo ti v d.toList := by
  rcases h with ⟨rfl, _⟩ | ⟨g', cap', cur, rfl, h0, hg, h1, h2, h3, h6, h4⟩
  · cases hv
  · cases hv
    refine .inr ⟨g, cap, putCells id 0 (flatK ecs 6 d) cur, by simp [hd], h0, sortWorld_heap w g m d os hg, by simp [hd]; exact h1, h2, by simp [putCells]; exact h3, fun ht => by simp [putCells]; exact h6 ht, ?_⟩
    rw [← flatK_toList]
    apply List.ext_getElem?
    intro t
    have hl : d.toList.length = es.length := by simp [hd]
    rw [hl, List.getElem?_take]
    by_cases ht : t < es.length * 6
    · have hs : t < (flatK ecs 6 d).size := by rw [size_flatK, hd]; exact ht
      rw [if_pos ht, Array.getElem?_toList, Array.getElem?_toList]
      unfold putCells
      rw [Array.getElem?_mapIdx, Array.getElem?_eq_getElem (show t < cur.size by omega), Array.getElem?_eq_getElem hs]
      simp only [Option.map_some, Nat.zero_le, Nat.zero_add, true_and, Nat.sub_zero, id]
      rw [if_pos hs, getElem!_pos (flatK ecs 6 d) t hs]
    · rw [if_neg ht, List.getElem?_eq_none (by rw [Array.length_toList, size_flatK, hd]; omega)]
end
theorem permIn_all {d d' : Array Ent} (h : PermIn 0 d.size d d') : d'.size = d.size ∧ d'.toList.Perm d.toList := by
  obtain ⟨h1, _, h3⟩ := h
  refine ⟨h1, ?_⟩
  have e : d'.extract 0 d.size = d' := by rw [← h1]; simp
  rw [e, Array.extract_eq_self_of_le (Nat.le_refl _)] at h3
  exact h3
theorem sortedIn_all {lt : Ent → Ent → Bool} {d : Array Ent} (hlt : ∀ x y, lt x y = decide (x.1 < y.1)) (h : SortedIn lt 0 d.size d) : d.toList.Pairwise fun a b => ¬ b.1 < a.1 := by
  rw [List.pairwise_iff_getElem]
  intro i j hi hj hij
  have hi' : i < d.size := by simpa using hi
  have hj' : j < d.size := by simpa using hj
  have := h i j (Nat.zero_le _) hij hj'
  rw [getElem!_pos d i hi', getElem!_pos d j hj', hlt] at this
  simpa using this
end Gus
end
section
/-
  DERIVED: THE SHELF's CONTRACTS AT THIS DUMP, IN PLAIN WORDS (tools/lay-plain.mjs out of 'TryzSortShelf.lean', which tools/lay-shelf.mjs wrote): THE SAME DECLARATIONS UNDER THE SAME NAMES: 'import', 'namespace', 'open', 'def', 'theorem' AND NOTHING ELSE: no command of the shelf's: FOR A HAND-IN. Each laying: the table of numbers ('.._ren') and one theorem, a field a fact of the dump's own or the kernel's comparison; each contract: ONE APPLICATION.
-/
namespace Go.Proofs
open Go.Shelf
def Tryz.sortE_ren : Go.Shelf.Ren := ⟨fun | 6 => 31 | 15 => 70 | 14 => 69 | 28 => 114 | 29 => 115 | 20 => 106 | 21 => 107 | 22 => 108 | 23 => 109 | 24 => 110 | 25 => 111 | 26 => 112 | 27 => 113 | 46 => 132 | 47 => 133 | 48 => 134 | 49 => 135 | 50 => 136 | 57 => 153 | n => n, fun | 22 => 95 | 24 => 97 | 25 => 100 | 3 => 3 | 39 => 132 | 0 => 0 | 53 => 33 | 55 => 48 | 4 => 4 | 46 => 174 | 45 => 173 | 50 => 178 | 5 => 5 | 9 => 9 | 66 => 197 | 70 => 201 | 76 => 218 | 77 => 219 | n => n, fun | n => n⟩
theorem Tryz.sortE : Go.Proofs.SlLaysF0.n6 Tryz.prog Tryz.sortE_ren := {
  mixed := by kernel_rfl
  f6 := ⟨Tryz.f31.name, by decide, Tryz.func31.trans (congrArg some (by kernel_rfl))⟩
  f14 := ⟨Tryz.f69.name, by decide, Tryz.func69.trans (congrArg some (by kernel_rfl))⟩
  f15 := Tryz.func70.trans (congrArg some (by kernel_rfl))
  f20 := ⟨Tryz.f106.name, by decide, Tryz.func106.trans (congrArg some (by kernel_rfl))⟩
  f21 := ⟨Tryz.f107.name, by decide, Tryz.func107.trans (congrArg some (by kernel_rfl))⟩
  f22 := ⟨Tryz.f108.name, by decide, Tryz.func108.trans (congrArg some (by kernel_rfl))⟩
  f23 := ⟨Tryz.f109.name, by decide, Tryz.func109.trans (congrArg some (by kernel_rfl))⟩
  f24 := ⟨Tryz.f110.name, by decide, Tryz.func110.trans (congrArg some (by kernel_rfl))⟩
  f25 := ⟨Tryz.f111.name, by decide, Tryz.func111.trans (congrArg some (by kernel_rfl))⟩
  f26 := ⟨Tryz.f112.name, by decide, Tryz.func112.trans (congrArg some (by kernel_rfl))⟩
  f27 := ⟨Tryz.f113.name, by decide, Tryz.func113.trans (congrArg some (by kernel_rfl))⟩
  f28 := Tryz.func114.trans (congrArg some (by kernel_rfl))
  f29 := Tryz.func115.trans (congrArg some (by kernel_rfl))
  f46 := ⟨Tryz.f132.name, by decide, Tryz.func132.trans (congrArg some (by kernel_rfl))⟩
  f47 := Tryz.func133.trans (congrArg some (by kernel_rfl))
  f48 := Tryz.func134.trans (congrArg some (by kernel_rfl))
  f49 := ⟨Tryz.f135.name, by decide, Tryz.func135.trans (congrArg some (by kernel_rfl))⟩
  f50 := ⟨Tryz.f136.name, by decide, Tryz.func136.trans (congrArg some (by kernel_rfl))⟩
  f57 := ⟨Tryz.f153.name, by decide, Tryz.func153.trans (congrArg some (by kernel_rfl))⟩
  t0 := Tryz.underlying0
  a0 := Tryz.isAgg0
  z0 := Tryz.sizeOf0
  v0 := Tryz.zeroValue0
  t3 := Tryz.underlying3
  a3 := Tryz.isAgg3
  z3 := Tryz.sizeOf3
  v3 := Tryz.zeroValue3
  t4 := Tryz.underlying4
  a4 := Tryz.isAgg4
  z4 := Tryz.sizeOf4
  v4 := Tryz.zeroValue4
  t5 := Tryz.underlying5
  a5 := Tryz.isAgg5
  z5 := Tryz.sizeOf5
  v5 := Tryz.zeroValue5
  t9 := Tryz.underlying9
  a9 := Tryz.isAgg9
  z9 := Tryz.sizeOf9
  v9 := Tryz.zeroValue9
  t22 := Tryz.underlying95
  a22 := Tryz.isAgg95
  z22 := Tryz.sizeOf95
  v22 := Tryz.zeroValue95
  t25 := Tryz.underlying100
  a25 := Tryz.isAgg100
  z25 := Tryz.sizeOf100
  v25 := Tryz.zeroValue100
  t39 := Tryz.underlying132
  a39 := Tryz.isAgg132
  z39 := Tryz.sizeOf132
  v39 := Tryz.zeroValue132
  t45 := Tryz.underlying173
  a45 := Tryz.isAgg173
  z45 := Tryz.sizeOf173
  v45 := Tryz.zeroValue173
  t46 := Tryz.underlying174
  a46 := Tryz.isAgg174
  z46 := Tryz.sizeOf174
  v46 := Tryz.zeroValue174
  t50 := Tryz.underlying178
  a50 := Tryz.isAgg178
  z50 := Tryz.sizeOf178
  v50 := Tryz.zeroValue178
  t53 := Tryz.underlying33
  a53 := Tryz.isAgg33
  z53 := Tryz.sizeOf33
  v53 := Tryz.zeroValue33
  t55 := Tryz.underlying48
  a55 := Tryz.isAgg48
  z55 := Tryz.sizeOf48
  v55 := Tryz.zeroValue48
  t66 := Tryz.underlying197
  a66 := Tryz.isAgg197
  z66 := Tryz.sizeOf197
  v66 := Tryz.zeroValue197
  t70 := Tryz.underlying201
  a70 := Tryz.isAgg201
  z70 := Tryz.sizeOf201
  v70 := Tryz.zeroValue201
  t76 := Tryz.underlying218
  a76 := Tryz.isAgg218
  z76 := Tryz.sizeOf218
  v76 := Tryz.zeroValue218
  t77 := Tryz.underlying219
  a77 := Tryz.isAgg219
  z77 := Tryz.sizeOf219
  v77 := Tryz.zeroValue219 }
end Go.Proofs
end
section
/- Contracts of Go's library at this translation, laid out of the guide's shelf. -/
namespace Go.Proofs
open Go.Shelf
def Tryz.lays125_ren : Go.Shelf.Ren := ⟨fun | 125 => 70 | 128 => 114 | 129 => 115 | n => n, fun | 46 => 132 | 3 => 3 | 51 => 33 | 53 => 48 | 4 => 4 | 5 => 5 | 9 => 9 | n => n, fun | n => n⟩
theorem Tryz.lays125 : Go.Proofs.Lays.n125 Tryz.prog Tryz.lays125_ren := {
  mixed := by kernel_rfl
  f125 := Tryz.func70.trans (congrArg some (by kernel_rfl))
  f128 := Tryz.func114.trans (congrArg some (by kernel_rfl))
  f129 := Tryz.func115.trans (congrArg some (by kernel_rfl))
  t3 := Tryz.underlying3
  a3 := Tryz.isAgg3
  z3 := Tryz.sizeOf3
  v3 := Tryz.zeroValue3
  t4 := Tryz.underlying4
  a4 := Tryz.isAgg4
  z4 := Tryz.sizeOf4
  v4 := Tryz.zeroValue4
  t5 := Tryz.underlying5
  a5 := Tryz.isAgg5
  z5 := Tryz.sizeOf5
  v5 := Tryz.zeroValue5
  t9 := Tryz.underlying9
  a9 := Tryz.isAgg9
  z9 := Tryz.sizeOf9
  v9 := Tryz.zeroValue9
  t46 := Tryz.underlying132
  a46 := Tryz.isAgg132
  z46 := Tryz.sizeOf132
  v46 := Tryz.zeroValue132
  t51 := Tryz.underlying33
  a51 := Tryz.isAgg33
  z51 := Tryz.sizeOf33
  v51 := Tryz.zeroValue33
  t53 := Tryz.underlying48
  a53 := Tryz.isAgg48
  z53 := Tryz.sizeOf48
  v53 := Tryz.zeroValue48 }
/-- bits.Len: "Len returns the minimum number of bits required to represent x; the result is 0 for x == 0.": IT RETURNS 'Lib.bitLen x'; the world is as it was. (A uint has 64 bits in the model.) ITS CALLEE bits.Len64 IS MET BY ITS OWN CONTRACT OFF THE SHELF (lay that first). (LAID: no walk: one application.) -/
theorem Tryz.bits_Len (x : Int) (w : World) (h0 : 0 ≤ x) (h1 : x ≤ 18446744073709551615) :
    Calls Tryz.prog 70 #[.int .u64 x] w fun e w' => e = .returned (.int .i64 (Lib.bitLen x.toNat)) ∧ w' = w := Any.bits_Len Tryz.lays125 x w h0 h1
end Go.Proofs
end
section
/- The library's sort of a row of entries; slices.Clip. -/
namespace Gus
open Go Go.RowKit Go.Proofs Go.Sort Go.Shelf
set_option maxHeartbeats 1000000 in
theorem sparse1_any (x y : Ent) (W : World) : Calls Tryz.prog 32 #[.agg (ecs x).toArray, .agg (ecs y).toArray] W fun e w' => e = .returned (.int .i64 (Lib.compareInt x.1 y.1)) ∧ ∃ q os', w' = grow (W.drewN q) os' := by
  have hcon := fun W' => Tryz.cmp_Compare_int x.1 y.1 W'
  generalize Lib.compareInt x.1 y.1 = r at hcon ⊢
  unfold ecs fcs
  go_enter Tryz.func32, Tryz.ntmps32
  go_wp2_with (go_at_call 33; refine (hcon _).mono ?_; rintro e w' ⟨rfl, rfl⟩)
  go_ret
  exact ⟨rfl, 0, _, by rw [alloc_eq_grow, alloc_eq_grow, grow_grow]; rfl⟩
theorem cmpLays1 (blk off size : Nat) (w : World) : CmpLays Tryz.prog 32 #[] ecs 6 (fun x y => Lib.compareInt x.1 y.1) blk off size w :=
  fun _ _ _ _ x y => sparse1_any x y _
theorem ltCol (x y : Ent) : ltOf (fun x y : Ent => Lib.compareInt x.1 y.1) x y = decide (x.1 < y.1) := by
  unfold ltOf Lib.compareInt
  by_cases h1 : x.1 < y.1
  · simp [h1]
  · by_cases h2 : y.1 < x.1 <;> simp [h1, h2]
theorem swoCol : SWO (ltOf fun x y : Ent => Lib.compareInt x.1 y.1) where
  irrefl x := by rw [ltCol]; simp
  trans x y z h1 h2 := by rw [ltCol] at *; simp at *; omega
  ntrans x y z h1 h2 := by rw [ltCol] at *; simp at *; omega
theorem ins_nil (fv : Value) (w : World) : Calls Tryz.prog 106 #[.slice none 0 0, .int .i64 0, .int .i64 0, fv] w fun e w' => e = .returned (.tuple #[]) ∧ w' = w := by
  go_enter Tryz.func106, Tryz.ntmps106
  go_wp2_with fail
  go_loop [8] (fun v8 => v8 = .int .i64 1) (fun _ => 0)
  case atStart => rfl
  case round =>
    subst hrel
    go_wp2_with fail
    go_end0
    exact ⟨rfl, rfl⟩
theorem pdq_nil (fv : Value) (lim : Int) (w : World) : Calls Tryz.prog 69 #[.slice none 0 0, .int .i64 0, .int .i64 0, .int .i64 lim, fv] w fun e w' => e = .returned (.tuple #[]) ∧ w' = w := by
  have h1 := ins_nil fv
  go_enter Tryz.func69, Tryz.ntmps69
  go_wp2_with fail
  go_loop [1, 2] (fun v1 v2 => v1 = .int .i64 0 ∧ v2 = .int .i64 0) (fun _ _ => 0)
  case atStart => exact ⟨rfl, rfl⟩
  case round =>
    obtain ⟨rfl, rfl⟩ := hrel
    go_wp2_with (go_at_call 106; refine (h1 _).mono ?_; rintro e w' ⟨rfl, rfl⟩)
    ((try simp only [Exit.inBlock, Exit.then]); refine bodyPost_ret (results_none rfl _ _ _) rfl ?_)
    exact ⟨rfl, rfl⟩
theorem sortE_nil (g : Nat) (w : World) : Calls Tryz.prog 31 #[.slice none 0 0, .func (.func g) #[] #[]] w fun e w' => e = .returned (.tuple #[]) ∧ w' = w := by
  have h1 := fun l W => pdq_nil (.func (.func g) #[] #[]) l W
  have h2 := fun W => Tryz.bits_Len 0 W (by decide) (by decide)
  go_enter Tryz.func31, Tryz.ntmps31
  go_wp2_with fail
  refine (h2 _).mono ?_
  rintro e w' ⟨rfl, rfl⟩
  go_wp2_with fail
  refine (h1 _ _).mono ?_
  rintro e w' ⟨rfl, rfl⟩
  go_wp2_with fail
  go_end0
  exact ⟨rfl, rfl⟩
/-- the row is sorted -/
theorem sortE_any (w : World) (lo : Nat) (ti : Bool) (v : Value) (es : List Ent) (h : RowIs w lo ti v es) (hl : es.length ≤ 2048) :
    Calls Tryz.prog 31 #[v, .func (.func 32) #[] #[]] w fun e w' => e = .returned (.tuple #[]) ∧ ∃ es' : List Ent, es'.Perm es ∧ (es'.Pairwise fun a b => ¬ b.1 < a.1) ∧ RowIs w' lo ti v es' ∧ w.grownBy w' v.ownBlock := by
  rcases h with ⟨rfl, rfl⟩ | ⟨g, cap, cur, rfl, hx⟩
  · refine (sortE_nil _ w).mono ?_
    rintro e w' ⟨rfl, rfl⟩
    exact ⟨rfl, [], .nil, .nil, .inl ⟨rfl, rfl⟩, ⟨rfl, rfl, rfl, Nat.le_refl _, fun _ _ _ => rfl⟩⟩
  · have h : RowIs w lo ti (.slice (some ⟨g, 0, none⟩) es.length cap) es := .inr ⟨g, cap, cur, rfl, hx⟩
    have eg : ∀ args w, (callFunc 32 args).run Tryz.prog w = .ok (.enter 32 args) w := enters_of Tryz.func32 (by kernel_rfl) rfl
    have hcon := AnyQ.slices_SortFunc Tryz.sortE 6 Tryz.isAgg97 Tryz.sizeOf97 ecs (fun _ => rfl) (fun x v hv => by simp [ecs, fcs] at hv; rcases hv with rfl | rfl | rfl | rfl | rfl | rfl <;> rfl) (fun x y => Lib.compareInt x.1 y.1) swoCol 32 #[] g 0 cap es.toArray w eg (cmpLays1 g 0 es.toArray.size w) (h.holds rfl) (Array.getElem?_eq_some_iff.1 hx.2.1).1 (by simp; omega)
    change Calls Tryz.prog 31 _ _ _ at hcon
    rw [show es.toArray.size = es.length by simp] at hcon
    refine hcon.mono ?_
    rintro e w' ⟨rfl, d, n, os, hp, hs, rfl⟩
    have hp' := permIn_all (d := es.toArray) (by rw [show es.toArray.size = es.length by simp]; exact hp)
    have hd : d.size = es.length := by rw [hp'.1]; simp
    refine ⟨rfl, d.toList, by simpa using hp'.2, sortedIn_all ltCol (by rw [hd]; exact hs), h.sorted rfl n d os hd, sortWorld_grown w g n d os⟩
theorem clip_some (a : Addr) (n cap : Nat) (h : n ≤ cap) (w : World) : Calls Tryz.prog 34 #[.slice (some a) n cap] w fun e w' => e = .returned (.slice (some a) n n) ∧ w' = w := by
  go_enter Tryz.func34, Tryz.ntmps34
  go_wp2_with fail
  go_ret
  exact ⟨rfl, rfl⟩
theorem clip_nil (w : World) : Calls Tryz.prog 34 #[.slice none 0 0] w fun e w' => e = .returned (.slice none 0 0) ∧ w' = w := by
  go_enter Tryz.func34, Tryz.ntmps34
  go_wp2_with fail
  go_ret
  exact ⟨rfl, rfl⟩
end Gus
end
