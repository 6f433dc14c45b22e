/-
  DERIVED. GIVEN WITH THE SEED: THE CARDS: each row of YtakblfhmllgepaaGreatDoorRows.lean that lists a variable, with what it lists TIED to the program's text (the seventh form; the later family's looks); each row that meets fmt, with fmt's text TOLD by the authors' own Lean function (tested against real Go, not proved from fmt's source: count such statements apart). THE CARD IS WHAT COUNTS. Prove the row's statement (the work); the ties are given (YtakblfhmllgepaaGreatDoorTie.lean); close each card by the builder's one call (the guide's Derived/Test/ToyasCard.lean, 'card_holds'). Laid BY PROGRAM, IN A SANDBOX (cutbox-door.mjs). By AI agents, Wed Nov 11 2026. No macro, syntax, notation, axiom, sorry.
-/
import Derived.Test.YtakblfhmllgepaaGreatDoorRows
import GoSem.ClaimSeven
namespace Go.Proofs.YtakblfhmllgepaaGreatDoor
namespace Rows

/-- THE TIED CARD OF 'gussetlaw16.SparsesBuild'. -/
def sparsesBuildCard : Claim7 := { stood := { row := sparsesBuildRow, standIns := [], harness := (true, "a5ecd5b2f690c2256a8d7b7b79c5ffad6a105eb90d021ed1fef3c0a0a151a5c9"), looks := false }, kinds := [], alts := [], laidByText := true, laidKinds := [.data, .data, .data], laidTests := true, laidLooks := .later }
def SparsesBuildCardSaid : Prop := Claim7.holds Tryz.pinned (.plain (OpenSpec.ofChange sparsesBuildSpec)) sparsesBuildCard

/-- THE SECOND FORM's CARD OF 'gussetlaw16.SparsesBuild'. -/
def sparsesBuildUptoCard : Claim7 := { stood := { row := sparsesBuildUptoRow, standIns := [], harness := (true, "a5ecd5b2f690c2256a8d7b7b79c5ffad6a105eb90d021ed1fef3c0a0a151a5c9"), looks := false }, kinds := [], alts := [], laidByText := true, laidKinds := [.data, .data, .data], laidTests := true, laidLooks := .later }
def SparsesBuildUptoCardSaid : Prop := Claim7.holds Tryz.pinned (.plain (OpenSpec.upto sparsesBuildSpec)) sparsesBuildUptoCard
end Rows
end Go.Proofs.YtakblfhmllgepaaGreatDoor
