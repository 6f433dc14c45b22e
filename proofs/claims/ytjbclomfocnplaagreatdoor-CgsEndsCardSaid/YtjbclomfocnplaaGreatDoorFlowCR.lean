/- Proved here: parts of the proof: FlowC Cgj Cge. Conditions: those that each theorem states. -/
import Derived.Test.YtjbclomfocnplaaGreatDoorFlowR
import Derived.Test.YtjbclomfocnplaaGreatDoorCgcR
section
/- gussetlaw19.CgsConjugate. -/
namespace Gus
open Go Go.RowKit Go.Proofs
section
variable {n m j : Nat} {A : Nat → Nat → Rat} {b : Vc} {s0 : Cg}
theorem CS.zero (n m : Nat) (h : 0 < m) : CS n m m fun _ => 0 := ⟨1, fun _ => 0, by decide, by
    have := Nat.pow_le_pow_right (show 0 < 2 by decide) h
    omega, fun i _ => ⟨Nat.pow_pos (by decide), by show (0 : Rat) * ((1 : Nat) : Rat) = ((0 : Int) : Rat); decide +kernel⟩⟩
end
end Gus
end
section
/- Energies of a run, as plain arithmetic; sizes for the law of energies. -/
namespace Gus
open Go Go.RowKit Go.Proofs
section
variable {n m j : Nat} {A : Nat → Nat → Rat} {b : Vc} {s0 : Cg}
theorem fin_pos (hsy : Sym n A) (hP : Pos n A) (h0 : s0.p = s0.r) : ∃ j, Fin n A s0 j := by
  obtain ⟨j, h1, h2, h3⟩ := run_ends hsy hP s0 h0
  exact ⟨j, h1, h2, fun k hk => ⟨h3 k hk, run_pos hsy hP s0 h0 j h3 k hk⟩⟩
end
theorem OneS.en {n m : Nat} {A : Nat → Nat → Rat} {b x : Vc} (h : OneS n m A b x) : SzK (9 * m + 3) (en n A b x) := by
  have hn := h.hn; have hm := h.hm
  have h1 : SzK (6 * m) (dt n x (mv n A x)) := (h.hx.dt h.mv3).szk (by omega) (by omega)
  have h2 : SzK (3 * m) (dt n b x) := (h.hb.dt h.hx).szk (by omega) (by omega)
  have h3 : SzK 2 (1 / 2 : Rat) := by constructor <;> decide +kernel
  exact ((h3.mul h1).sub h2).mono (by omega)
end Gus
end
