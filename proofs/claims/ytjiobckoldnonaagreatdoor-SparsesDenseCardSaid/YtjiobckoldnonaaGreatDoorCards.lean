/-
  DERIVED. GIVEN WITH THE SEED: THE CARDS: each row of YtjiobckoldnonaaGreatDoorRows.lean that lists a variable, with what it lists TIED to the program's text (the seventh form; the later family's looks); each row that meets fmt, with fmt's text TOLD by the authors' own Lean function (tested against real Go, not proved from fmt's source: count such statements apart). THE CARD IS WHAT COUNTS. Prove the row's statement (the work); the ties are given (YtjiobckoldnonaaGreatDoorTie.lean); close each card by the builder's one call (the guide's Derived/Test/ToyasCard.lean, 'card_holds'). Laid BY PROGRAM, IN A SANDBOX (cutbox-door.mjs). By AI agents, Wed Nov 11 2026. No macro, syntax, notation, axiom, sorry.
-/
import Derived.Test.YtjiobckoldnonaaGreatDoorRows
import GoSem.ClaimSeven
namespace Go.Proofs.YtjiobckoldnonaaGreatDoor
namespace Rows

/-- THE TIED CARD OF 'gussetlaw16.SparsesBuild'. -/
def sparsesBuildCard : Claim7 := { stood := { row := sparsesBuildRow, standIns := [], harness := (true, "b6b96c560697869abb90a36233d6208662c6f05623b394d46f8bd7b5b444db3c"), looks := false }, kinds := [], alts := [], laidByText := true, laidKinds := [.data, .data, .data], laidTests := true, laidLooks := .later }
def SparsesBuildCardSaid : Prop := Claim7.holds Tryz.pinned (.plain (OpenSpec.ofChange sparsesBuildSpec)) sparsesBuildCard

/-- THE TIED CARD OF 'gussetlaw16.SparsesSame'. -/
def sparsesSameCard : Claim7 := { stood := { row := sparsesSameRow, standIns := [], harness := (true, "b6b96c560697869abb90a36233d6208662c6f05623b394d46f8bd7b5b444db3c"), looks := false }, kinds := [], alts := [], laidByText := true, laidKinds := [.data, .data, .data], laidTests := true, laidLooks := .later }
def SparsesSameCardSaid : Prop := Claim7.holds Tryz.pinned (.plain (OpenSpec.ofChange sparsesSameSpec)) sparsesSameCard

/-- THE TIED CARD OF 'gussetlaw16.SparsesSizes'. -/
def sparsesSizesCard : Claim7 := { stood := { row := sparsesSizesRow, standIns := [], harness := (true, "b6b96c560697869abb90a36233d6208662c6f05623b394d46f8bd7b5b444db3c"), looks := false }, kinds := [], alts := [], laidByText := true, laidKinds := [.data, .data, .data], laidTests := true, laidLooks := .later }
def SparsesSizesCardSaid : Prop := Claim7.holds Tryz.pinned (.plain (OpenSpec.ofChange sparsesSizesSpec)) sparsesSizesCard

/-- THE TIED CARD OF 'gussetlaw16.SparsesParts'. -/
def sparsesPartsCard : Claim7 := { stood := { row := sparsesPartsRow, standIns := [], harness := (true, "b6b96c560697869abb90a36233d6208662c6f05623b394d46f8bd7b5b444db3c"), looks := false }, kinds := [], alts := [], laidByText := true, laidKinds := [.data, .data, .data], laidTests := true, laidLooks := .later }
def SparsesPartsCardSaid : Prop := Claim7.holds Tryz.pinned (.plain (OpenSpec.ofChange sparsesPartsSpec)) sparsesPartsCard

/-- THE TIED CARD OF 'gussetlaw16.SparsesChecks'. -/
def sparsesChecksCard : Claim7 := { stood := { row := sparsesChecksRow, standIns := [], harness := (true, "b6b96c560697869abb90a36233d6208662c6f05623b394d46f8bd7b5b444db3c"), looks := false }, kinds := [], alts := [], laidByText := true, laidKinds := [.data, .data, .data], laidTests := true, laidLooks := .later }
def SparsesChecksCardSaid : Prop := Claim7.holds Tryz.pinned (.plain (OpenSpec.ofChange sparsesChecksSpec)) sparsesChecksCard

/-- THE TIED CARD OF 'gussetlaw16.SparsesDense'. -/
def sparsesDenseCard : Claim7 := { stood := { row := sparsesDenseRow, standIns := [], harness := (true, "b6b96c560697869abb90a36233d6208662c6f05623b394d46f8bd7b5b444db3c"), looks := false }, kinds := [], alts := [], laidByText := true, laidKinds := [.data, .data, .data], laidTests := true, laidLooks := .later }
def SparsesDenseCardSaid : Prop := Claim7.holds Tryz.pinned (.plain (OpenSpec.ofChange sparsesDenseSpec)) sparsesDenseCard

/-- THE TIED CARD OF 'gussetlaw16.SparsesKnown'. -/
def sparsesKnownCard : Claim7 := { stood := { row := sparsesKnownRow, standIns := [], harness := (true, "b6b96c560697869abb90a36233d6208662c6f05623b394d46f8bd7b5b444db3c"), looks := false }, kinds := [], alts := [], laidByText := true, laidKinds := [.data, .data, .data], laidTests := true, laidLooks := .later }
def SparsesKnownCardSaid : Prop := Claim7.holds Tryz.pinned (.plain (OpenSpec.ofChange sparsesKnownSpec)) sparsesKnownCard

/-- THE SECOND FORM's CARD OF 'gussetlaw16.SparsesBuild'. -/
def sparsesBuildUptoCard : Claim7 := { stood := { row := sparsesBuildUptoRow, standIns := [], harness := (true, "b6b96c560697869abb90a36233d6208662c6f05623b394d46f8bd7b5b444db3c"), looks := false }, kinds := [], alts := [], laidByText := true, laidKinds := [.data, .data, .data], laidTests := true, laidLooks := .later }
def SparsesBuildUptoCardSaid : Prop := Claim7.holds Tryz.pinned (.plain (OpenSpec.upto sparsesBuildSpec)) sparsesBuildUptoCard

/-- THE SECOND FORM's CARD OF 'gussetlaw16.SparsesSame'. -/
def sparsesSameUptoCard : Claim7 := { stood := { row := sparsesSameUptoRow, standIns := [], harness := (true, "b6b96c560697869abb90a36233d6208662c6f05623b394d46f8bd7b5b444db3c"), looks := false }, kinds := [], alts := [], laidByText := true, laidKinds := [.data, .data, .data], laidTests := true, laidLooks := .later }
def SparsesSameUptoCardSaid : Prop := Claim7.holds Tryz.pinned (.plain (OpenSpec.upto sparsesSameSpec)) sparsesSameUptoCard

/-- THE SECOND FORM's CARD OF 'gussetlaw16.SparsesSizes'. -/
def sparsesSizesUptoCard : Claim7 := { stood := { row := sparsesSizesUptoRow, standIns := [], harness := (true, "b6b96c560697869abb90a36233d6208662c6f05623b394d46f8bd7b5b444db3c"), looks := false }, kinds := [], alts := [], laidByText := true, laidKinds := [.data, .data, .data], laidTests := true, laidLooks := .later }
def SparsesSizesUptoCardSaid : Prop := Claim7.holds Tryz.pinned (.plain (OpenSpec.upto sparsesSizesSpec)) sparsesSizesUptoCard

/-- THE SECOND FORM's CARD OF 'gussetlaw16.SparsesParts'. -/
def sparsesPartsUptoCard : Claim7 := { stood := { row := sparsesPartsUptoRow, standIns := [], harness := (true, "b6b96c560697869abb90a36233d6208662c6f05623b394d46f8bd7b5b444db3c"), looks := false }, kinds := [], alts := [], laidByText := true, laidKinds := [.data, .data, .data], laidTests := true, laidLooks := .later }
def SparsesPartsUptoCardSaid : Prop := Claim7.holds Tryz.pinned (.plain (OpenSpec.upto sparsesPartsSpec)) sparsesPartsUptoCard

/-- THE SECOND FORM's CARD OF 'gussetlaw16.SparsesChecks'. -/
def sparsesChecksUptoCard : Claim7 := { stood := { row := sparsesChecksUptoRow, standIns := [], harness := (true, "b6b96c560697869abb90a36233d6208662c6f05623b394d46f8bd7b5b444db3c"), looks := false }, kinds := [], alts := [], laidByText := true, laidKinds := [.data, .data, .data], laidTests := true, laidLooks := .later }
def SparsesChecksUptoCardSaid : Prop := Claim7.holds Tryz.pinned (.plain (OpenSpec.upto sparsesChecksSpec)) sparsesChecksUptoCard

/-- THE SECOND FORM's CARD OF 'gussetlaw16.SparsesDense'. -/
def sparsesDenseUptoCard : Claim7 := { stood := { row := sparsesDenseUptoRow, standIns := [], harness := (true, "b6b96c560697869abb90a36233d6208662c6f05623b394d46f8bd7b5b444db3c"), looks := false }, kinds := [], alts := [], laidByText := true, laidKinds := [.data, .data, .data], laidTests := true, laidLooks := .later }
def SparsesDenseUptoCardSaid : Prop := Claim7.holds Tryz.pinned (.plain (OpenSpec.upto sparsesDenseSpec)) sparsesDenseUptoCard

/-- THE SECOND FORM's CARD OF 'gussetlaw16.SparsesKnown'. -/
def sparsesKnownUptoCard : Claim7 := { stood := { row := sparsesKnownUptoRow, standIns := [], harness := (true, "b6b96c560697869abb90a36233d6208662c6f05623b394d46f8bd7b5b444db3c"), looks := false }, kinds := [], alts := [], laidByText := true, laidKinds := [.data, .data, .data], laidTests := true, laidLooks := .later }
def SparsesKnownUptoCardSaid : Prop := Claim7.holds Tryz.pinned (.plain (OpenSpec.upto sparsesKnownSpec)) sparsesKnownUptoCard
end Rows
end Go.Proofs.YtjiobckoldnonaaGreatDoor
