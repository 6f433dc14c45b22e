/-
  DERIVED. GIVEN WITH THE SEED: THE CARDS: each row of YtjbclomfocnplaaGreatDoorRows.lean that lists a variable, with what it lists TIED to the program's text (the seventh form; the later family's looks); each row that meets fmt, with fmt's text TOLD by the authors' own Lean function (tested against real Go, not proved from fmt's source: count such statements apart). THE CARD IS WHAT COUNTS. Prove the row's statement (the work); the ties are given (YtjbclomfocnplaaGreatDoorTie.lean); close each card by the builder's one call (the guide's Derived/Test/ToyasCard.lean, 'card_holds'). Laid BY PROGRAM, IN A SANDBOX (cutbox-door.mjs). By AI agents, Wed Nov 11 2026. No macro, syntax, notation, axiom, sorry.
-/
import Derived.Test.YtjbclomfocnplaaGreatDoorRows
import GoSem.ClaimSeven
namespace Go.Proofs.YtjbclomfocnplaaGreatDoor
namespace Rows

/-- THE TIED CARD OF 'gussetlaw19.CgsSteps'. -/
def cgsStepsCard : Claim7 := { stood := { row := cgsStepsRow, standIns := [], harness := (true, "5fa04353fd8c6e589334bf7db30a989426ada20a1c477bec1c1bce043088541b"), looks := false }, kinds := [], alts := [], laidByText := true, laidKinds := [.data, .data, .data], laidTests := true, laidLooks := .later }
def CgsStepsCardSaid : Prop := Claim7.holds Tryz.pinned (.plain (OpenSpec.ofChange cgsStepsSpec)) cgsStepsCard

/-- THE TIED CARD OF 'gussetlaw19.CgsConjugate'. -/
def cgsConjugateCard : Claim7 := { stood := { row := cgsConjugateRow, standIns := [], harness := (true, "5fa04353fd8c6e589334bf7db30a989426ada20a1c477bec1c1bce043088541b"), looks := false }, kinds := [], alts := [], laidByText := true, laidKinds := [.data, .data, .data], laidTests := true, laidLooks := .later }
def CgsConjugateCardSaid : Prop := Claim7.holds Tryz.pinned (.plain (OpenSpec.ofChange cgsConjugateSpec)) cgsConjugateCard

/-- THE TIED CARD OF 'gussetlaw19.CgsFew'. -/
def cgsFewCard : Claim7 := { stood := { row := cgsFewRow, standIns := [], harness := (true, "5fa04353fd8c6e589334bf7db30a989426ada20a1c477bec1c1bce043088541b"), looks := false }, kinds := [], alts := [], laidByText := true, laidKinds := [.data, .data, .data], laidTests := true, laidLooks := .later }
def CgsFewCardSaid : Prop := Claim7.holds Tryz.pinned (.plain (OpenSpec.ofChange cgsFewSpec)) cgsFewCard

/-- THE TIED CARD OF 'gussetlaw19.CgsErrors'. -/
def cgsErrorsCard : Claim7 := { stood := { row := cgsErrorsRow, standIns := [], harness := (true, "5fa04353fd8c6e589334bf7db30a989426ada20a1c477bec1c1bce043088541b"), looks := false }, kinds := [], alts := [], laidByText := true, laidKinds := [.data, .data, .data], laidTests := true, laidLooks := .later }
def CgsErrorsCardSaid : Prop := Claim7.holds Tryz.pinned (.plain (OpenSpec.ofChange cgsErrorsSpec)) cgsErrorsCard

/-- THE TIED CARD OF 'gussetlaw19.CgsEnergy'. -/
def cgsEnergyCard : Claim7 := { stood := { row := cgsEnergyRow, standIns := [], harness := (true, "5fa04353fd8c6e589334bf7db30a989426ada20a1c477bec1c1bce043088541b"), looks := false }, kinds := [], alts := [], laidByText := true, laidKinds := [.data, .data, .data], laidTests := true, laidLooks := .later }
def CgsEnergyCardSaid : Prop := Claim7.holds Tryz.pinned (.plain (OpenSpec.ofChange cgsEnergySpec)) cgsEnergyCard

/-- THE TIED CARD OF 'gussetlaw19.CgsEnds'. -/
def cgsEndsCard : Claim7 := { stood := { row := cgsEndsRow, standIns := [], harness := (true, "5fa04353fd8c6e589334bf7db30a989426ada20a1c477bec1c1bce043088541b"), looks := false }, kinds := [], alts := [], laidByText := true, laidKinds := [.data, .data, .data], laidTests := true, laidLooks := .later }
def CgsEndsCardSaid : Prop := Claim7.holds Tryz.pinned (.plain (OpenSpec.ofChange cgsEndsSpec)) cgsEndsCard

/-- THE TIED CARD OF 'gussetlaw19.CgsKnown'. -/
def cgsKnownCard : Claim7 := { stood := { row := cgsKnownRow, standIns := [], harness := (true, "5fa04353fd8c6e589334bf7db30a989426ada20a1c477bec1c1bce043088541b"), looks := false }, kinds := [], alts := [], laidByText := true, laidKinds := [.data, .data, .data], laidTests := true, laidLooks := .later }
def CgsKnownCardSaid : Prop := Claim7.holds Tryz.pinned (.plain (OpenSpec.ofChange cgsKnownSpec)) cgsKnownCard

/-- THE TIED CARD OF 'gussetlaw16.SparsesBuild'. -/
def sparsesBuildCard : Claim7 := { stood := { row := sparsesBuildRow, standIns := [], harness := (true, "5fa04353fd8c6e589334bf7db30a989426ada20a1c477bec1c1bce043088541b"), looks := false }, kinds := [], alts := [], laidByText := true, laidKinds := [.data, .data, .data], laidTests := true, laidLooks := .later }
def SparsesBuildCardSaid : Prop := Claim7.holds Tryz.pinned (.plain (OpenSpec.ofChange sparsesBuildSpec)) sparsesBuildCard

/-- THE TIED CARD OF 'gussetlaw16.SparsesKnown'. -/
def sparsesKnownCard : Claim7 := { stood := { row := sparsesKnownRow, standIns := [], harness := (true, "5fa04353fd8c6e589334bf7db30a989426ada20a1c477bec1c1bce043088541b"), looks := false }, kinds := [], alts := [], laidByText := true, laidKinds := [.data, .data, .data], laidTests := true, laidLooks := .later }
def SparsesKnownCardSaid : Prop := Claim7.holds Tryz.pinned (.plain (OpenSpec.ofChange sparsesKnownSpec)) sparsesKnownCard

/-- THE SECOND FORM's CARD OF 'gussetlaw19.CgsSteps'. -/
def cgsStepsUptoCard : Claim7 := { stood := { row := cgsStepsUptoRow, standIns := [], harness := (true, "5fa04353fd8c6e589334bf7db30a989426ada20a1c477bec1c1bce043088541b"), looks := false }, kinds := [], alts := [], laidByText := true, laidKinds := [.data, .data, .data], laidTests := true, laidLooks := .later }
def CgsStepsUptoCardSaid : Prop := Claim7.holds Tryz.pinned (.plain (OpenSpec.upto cgsStepsSpec)) cgsStepsUptoCard

/-- THE SECOND FORM's CARD OF 'gussetlaw19.CgsConjugate'. -/
def cgsConjugateUptoCard : Claim7 := { stood := { row := cgsConjugateUptoRow, standIns := [], harness := (true, "5fa04353fd8c6e589334bf7db30a989426ada20a1c477bec1c1bce043088541b"), looks := false }, kinds := [], alts := [], laidByText := true, laidKinds := [.data, .data, .data], laidTests := true, laidLooks := .later }
def CgsConjugateUptoCardSaid : Prop := Claim7.holds Tryz.pinned (.plain (OpenSpec.upto cgsConjugateSpec)) cgsConjugateUptoCard

/-- THE SECOND FORM's CARD OF 'gussetlaw19.CgsFew'. -/
def cgsFewUptoCard : Claim7 := { stood := { row := cgsFewUptoRow, standIns := [], harness := (true, "5fa04353fd8c6e589334bf7db30a989426ada20a1c477bec1c1bce043088541b"), looks := false }, kinds := [], alts := [], laidByText := true, laidKinds := [.data, .data, .data], laidTests := true, laidLooks := .later }
def CgsFewUptoCardSaid : Prop := Claim7.holds Tryz.pinned (.plain (OpenSpec.upto cgsFewSpec)) cgsFewUptoCard

/-- THE SECOND FORM's CARD OF 'gussetlaw19.CgsErrors'. -/
def cgsErrorsUptoCard : Claim7 := { stood := { row := cgsErrorsUptoRow, standIns := [], harness := (true, "5fa04353fd8c6e589334bf7db30a989426ada20a1c477bec1c1bce043088541b"), looks := false }, kinds := [], alts := [], laidByText := true, laidKinds := [.data, .data, .data], laidTests := true, laidLooks := .later }
def CgsErrorsUptoCardSaid : Prop := Claim7.holds Tryz.pinned (.plain (OpenSpec.upto cgsErrorsSpec)) cgsErrorsUptoCard

/-- THE SECOND FORM's CARD OF 'gussetlaw19.CgsEnergy'. -/
def cgsEnergyUptoCard : Claim7 := { stood := { row := cgsEnergyUptoRow, standIns := [], harness := (true, "5fa04353fd8c6e589334bf7db30a989426ada20a1c477bec1c1bce043088541b"), looks := false }, kinds := [], alts := [], laidByText := true, laidKinds := [.data, .data, .data], laidTests := true, laidLooks := .later }
def CgsEnergyUptoCardSaid : Prop := Claim7.holds Tryz.pinned (.plain (OpenSpec.upto cgsEnergySpec)) cgsEnergyUptoCard

/-- THE SECOND FORM's CARD OF 'gussetlaw19.CgsEnds'. -/
def cgsEndsUptoCard : Claim7 := { stood := { row := cgsEndsUptoRow, standIns := [], harness := (true, "5fa04353fd8c6e589334bf7db30a989426ada20a1c477bec1c1bce043088541b"), looks := false }, kinds := [], alts := [], laidByText := true, laidKinds := [.data, .data, .data], laidTests := true, laidLooks := .later }
def CgsEndsUptoCardSaid : Prop := Claim7.holds Tryz.pinned (.plain (OpenSpec.upto cgsEndsSpec)) cgsEndsUptoCard

/-- THE SECOND FORM's CARD OF 'gussetlaw19.CgsKnown'. -/
def cgsKnownUptoCard : Claim7 := { stood := { row := cgsKnownUptoRow, standIns := [], harness := (true, "5fa04353fd8c6e589334bf7db30a989426ada20a1c477bec1c1bce043088541b"), looks := false }, kinds := [], alts := [], laidByText := true, laidKinds := [.data, .data, .data], laidTests := true, laidLooks := .later }
def CgsKnownUptoCardSaid : Prop := Claim7.holds Tryz.pinned (.plain (OpenSpec.upto cgsKnownSpec)) cgsKnownUptoCard

/-- THE SECOND FORM's CARD OF 'gussetlaw16.SparsesBuild'. -/
def sparsesBuildUptoCard : Claim7 := { stood := { row := sparsesBuildUptoRow, standIns := [], harness := (true, "5fa04353fd8c6e589334bf7db30a989426ada20a1c477bec1c1bce043088541b"), looks := false }, kinds := [], alts := [], laidByText := true, laidKinds := [.data, .data, .data], laidTests := true, laidLooks := .later }
def SparsesBuildUptoCardSaid : Prop := Claim7.holds Tryz.pinned (.plain (OpenSpec.upto sparsesBuildSpec)) sparsesBuildUptoCard

/-- THE SECOND FORM's CARD OF 'gussetlaw16.SparsesKnown'. -/
def sparsesKnownUptoCard : Claim7 := { stood := { row := sparsesKnownUptoRow, standIns := [], harness := (true, "5fa04353fd8c6e589334bf7db30a989426ada20a1c477bec1c1bce043088541b"), looks := false }, kinds := [], alts := [], laidByText := true, laidKinds := [.data, .data, .data], laidTests := true, laidLooks := .later }
def SparsesKnownUptoCardSaid : Prop := Claim7.holds Tryz.pinned (.plain (OpenSpec.upto sparsesKnownSpec)) sparsesKnownUptoCard
end Rows
end Go.Proofs.YtjbclomfocnplaaGreatDoor
