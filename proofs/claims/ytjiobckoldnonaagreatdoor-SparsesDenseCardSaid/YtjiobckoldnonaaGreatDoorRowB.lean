import Derived.Test.YtjiobckoldnonaaGreatDoorRow
import Derived.Shelf.GgSortFunc.InsertionK
/- Rows of one's own and the library's sort. -/
namespace Gus
open Go Go.RowKit Go.Proofs Go.Sort
theorem flatK_toList (d : Array Ent) : (flatK ecs 6 d).toList = d.toList.flatMap ecs := by
  apply List.ext_getElem?
  intro t
  by_cases ht : t < d.size * 6
  · have h1 : t / 6 < d.toList.length := by simp; omega
    have h2 : t % 6 < 6 := Nat.mod_lt _ (by decide)
    have e : 6 * (t / 6) + t % 6 = t := Nat.div_add_mod t 6
    have h3 := flat_at d.toList (t / 6) (t % 6) h1 h2
    rw [e] at h3
    rw [h3]
    have hs : t < (flatK ecs 6 d).size := by rw [size_flatK]; exact ht
    have h4 := get_flatK ecs 6 d t ht
    rw [getElem!_pos (flatK ecs 6 d) t hs] at h4
    rw [Array.getElem?_toList, Array.getElem?_eq_getElem hs, h4]
    have e2 : d.toList.getD (t / 6) (0, 0) = d[t / 6]! := by
      have h1' : t / 6 < d.size := by simpa using h1
      rw [getElem!_pos d (t / 6) h1', List.getD_eq_getElem?_getD, Array.getElem?_toList, Array.getElem?_eq_getElem h1']; rfl
    rw [e2]
    have h6 : t % 6 < (ecs d[t / 6]!).length := by rw [ecs_length]; exact h2
    rw [getElem!_pos (ecs d[t / 6]!) (t % 6) h6, List.getElem?_eq_getElem h6]
  · rw [List.getElem?_eq_none (by simp; omega), List.getElem?_eq_none (by rw [flatE_length]; simp; omega)]
section
variable {w : World} {lo g cap : Nat} {ti : Bool} {v : Value} {es : List Ent}
theorem RowIs.holds (h : RowIs w lo ti v es) (hv : v = .slice (some ⟨g, 0, none⟩) es.length cap) : HoldsK ecs 6 w g 0 es.toArray := by
  rcases h with ⟨rfl, _⟩ | ⟨g', cap', cur, rfl, h0, hg, h1, h2, h3, h6, h4⟩
  · cases hv
  · cases hv
    intro j hj
    rw [size_flatK] at hj
    have hj' : j < es.length * 6 := by simpa using hj
    refine ⟨?_, frozen_of_row w g _ _ _ hg⟩
    have e := flatK_toList es.toArray
    have hs : j < (flatK ecs 6 es.toArray).size := by rw [size_flatK]; exact hj
    rw [cell_of_row w g _ _ _ _ hg, Nat.zero_add, ← Array.getElem?_toList]
    have : (cur.toList.take (es.length * 6))[j]? = (flatK ecs 6 es.toArray).toList[j]? := by rw [h4, e]
    rw [List.getElem?_take, if_pos hj'] at this
    rw [this, Array.getElem?_toList, Array.getElem?_eq_getElem hs, getElem!_pos (flatK ecs 6 es.toArray) j hs]; rfl
theorem sortWorld_heap (w : World) (g m : Nat) (d : Array Ent) (os : Array Obj) {cur : Array Value} {T : TypeId} (hg : w.heap[g]? = some (.cells cur T (0, 0))) :
    (sortWorldK ecs 6 w g 0 m d os).heap[g]? = some (.cells (putCells id 0 (flatK ecs 6 d) cur) T (0, 0)) := by
  have hlt := (Array.getElem?_eq_some_iff.1 hg).1
  unfold sortWorldK grow putRowK putRow mapBlock Sort.ahead
  simp only
  rw [Array.getElem?_append_left (by simpa using hlt), Array.getElem?_modify, if_pos rfl, hg]; rfl
theorem sortWorld_grown (w : World) (g m : Nat) (d : Array Ent) (os : Array Obj) : w.grownBy (sortWorldK ecs 6 w g 0 m d os) (some g) := by
  unfold sortWorldK grow putRowK putRow mapBlock Sort.ahead
  refine ⟨rfl, rfl, rfl, by simp, fun k hk hne => ?_⟩
  simp only
  rw [Array.getElem?_append_left (by simpa using hk), Array.getElem?_modify, if_neg (fun e => hne (by rw [e]))]
theorem RowIs.sorted (h : RowIs w lo ti v es) (hv : v = .slice (some ⟨g, 0, none⟩) es.length cap) (m : Nat) (d : Array Ent) (os : Array Obj) (hd : d.size = es.length) : RowIs (sortWorldK ecs 6 w g 0 m d os) lo ti v d.toList := by
  rcases h with ⟨rfl, _⟩ | ⟨g', cap', cur, rfl, h0, hg, h1, h2, h3, h6, h4⟩
  · cases hv
  · cases hv
    refine .inr ⟨g, cap, putCells id 0 (flatK ecs 6 d) cur, by simp [hd], h0, sortWorld_heap w g m d os hg, by simp [hd]; exact h1, h2, by simp [putCells]; exact h3, fun ht => by simp [putCells]; exact h6 ht, ?_⟩
    rw [← flatK_toList]
    apply List.ext_getElem?
    intro t
    have hl : d.toList.length = es.length := by simp [hd]
    rw [hl, List.getElem?_take]
    by_cases ht : t < es.length * 6
    · have hs : t < (flatK ecs 6 d).size := by rw [size_flatK, hd]; exact ht
      rw [if_pos ht, Array.getElem?_toList, Array.getElem?_toList]
      unfold putCells
      rw [Array.getElem?_mapIdx, Array.getElem?_eq_getElem (show t < cur.size by omega), Array.getElem?_eq_getElem hs]
      simp only [Option.map_some, Nat.zero_le, Nat.zero_add, true_and, Nat.sub_zero, id]
      rw [if_pos hs, getElem!_pos (flatK ecs 6 d) t hs]
    · rw [if_neg ht, List.getElem?_eq_none (by rw [Array.length_toList, size_flatK, hd]; omega)]
end
theorem permIn_all {d d' : Array Ent} (h : PermIn 0 d.size d d') : d'.size = d.size ∧ d'.toList.Perm d.toList := by
  obtain ⟨h1, _, h3⟩ := h
  refine ⟨h1, ?_⟩
  have e : d'.extract 0 d.size = d' := by rw [← h1]; simp
  rw [e, Array.extract_eq_self_of_le (Nat.le_refl _)] at h3
  exact h3
theorem sortedIn_all {lt : Ent → Ent → Bool} {d : Array Ent} (hlt : ∀ x y, lt x y = decide (x.1 < y.1)) (h : SortedIn lt 0 d.size d) : d.toList.Pairwise fun a b => ¬ b.1 < a.1 := by
  rw [List.pairwise_iff_getElem]
  intro i j hi hj hij
  have hi' : i < d.size := by simpa using hi
  have hj' : j < d.size := by simpa using hj
  have := h i j (Nat.zero_le _) hij hj'
  rw [getElem!_pos d i hi', getElem!_pos d j hj', hlt] at this
  simpa using this
end Gus
