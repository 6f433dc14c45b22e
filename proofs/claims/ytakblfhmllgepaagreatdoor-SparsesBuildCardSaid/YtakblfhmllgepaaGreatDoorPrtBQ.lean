/- Proved here: parts of the proof: PrtB PrtC At Dia Own. Conditions: those that each theorem states. -/
import Derived.Test.YtakblfhmllgepaaGreatDoorBinQ
import Derived.Test.YtakblfhmllgepaaGreatDoorSmaQ
import Derived.Test.YtakblfhmllgepaaGreatDoorVecQ
section
/- Rows of one's own that stay. -/
namespace Gus
open Go Go.RowKit Go.Proofs
theorem info_int8 : (Tryz.prog.info? 3).map (fun i => (i.zero, i.size, i.bytes)) = some (some (.int .i64 0), 1, 8) := by kernel_rfl
theorem ownsRow_below {w w' : World} {base : Nat} {e : TypeId} {size : Nat} {v : Value} {n : Nat} {xs : List Value} (h : w.ownsRow base e size v n xs) (hb : Below w.heap.size w w') : w'.ownsRow base e size v n xs :=
  h.kept (row := none) ⟨hb.os, hb.tape, hb.output, hb.size, fun k hk _ => hb.block k hk⟩ (by cases v.ownBlock <;> simp)
theorem ownsRow_kept {w w' : World} {lo size n : Nat} {e : TypeId} {v : Value} {xs : List Value} (h : w.ownsRow lo e size v n xs) (hb : ∀ k, v.ownBlock = some k → w'.heap[k]? = w.heap[k]?) : w'.ownsRow lo e size v n xs := by
  refine ⟨h.1, ?_⟩
  rcases h.2 with h2 | ⟨g, cap, cur, rfl, h0, hg, h1⟩
  · exact .inl h2
  · exact .inr ⟨g, cap, cur, rfl, h0, (hb g rfl).trans hg, h1⟩
theorem ownsRow_ne {w : World} {lo size n b : Nat} {e T : TypeId} {v : Value} {xs cs : List Value} (h : w.ownsRow lo e size v n xs) (hB : Bx w b T cs) (hT : e ≠ T) : v.ownBlock ≠ some b := fun hk => by
  rcases h.2 with ⟨rfl, _⟩ | ⟨g, cap, cur, rfl, h0, hg, h1⟩
  · simp [Value.ownBlock] at hk
  · simp [Value.ownBlock] at hk
    subst hk
    have h6 : w.heap[g]? = some (Obj.cells cs.toArray T (0, 0)) := hB
    rw [hg] at h6
    injection h6 with h7
    injection h7 with _ h8
    exact hT h8
theorem ownsRow_grown {w w' : World} {lo size n b : Nat} {e T : TypeId} {v : Value} {xs cs : List Value} (h : w.ownsRow lo e size v n xs) (hB : Bx w b T cs) (hT : e ≠ T) (hg : w.grownBy w' (some b)) : w'.ownsRow lo e size v n xs :=
  ownsRow_kept h fun k hk => hg.block k (h.lt k hk).2 (fun e => ownsRow_ne h hB hT (by rw [hk, e]))
theorem ownsRow_bel {w w' : World} {lo size n : Nat} {e : TypeId} {v : Value} {xs : List Value} (h : w.ownsRow lo e size v n xs) (hb : Below w.heap.size w w') : w'.ownsRow lo e size v n xs :=
  ownsRow_kept h fun k hk => hb.block k (h.lt k hk).2
end Gus
end
