/-
  DERIVED. GIVEN WITH THE SEED: THE CARDS: each row of YthblojaeoiemmaaGreatDoorRows.lean that lists a variable, with what it lists TIED to the program's text (the seventh form; the later family's looks); each row that meets fmt, with fmt's text TOLD by the authors' own Lean function (tested against real Go, not proved from fmt's source: count such statements apart). THE CARD IS WHAT COUNTS. Prove the row's statement (the work); the ties are given (YthblojaeoiemmaaGreatDoorTie.lean); close each card by the builder's one call (the guide's Derived/Test/ToyasCard.lean, 'card_holds'). Laid BY PROGRAM, IN A SANDBOX (cutbox-door.mjs). By AI agents, Wed Nov 11 2026. No macro, syntax, notation, axiom, sorry.
-/
import Derived.Test.YthblojaeoiemmaaGreatDoorRows
import GoSem.ClaimSeven
namespace Go.Proofs.YthblojaeoiemmaaGreatDoor
namespace Rows

/-- THE TIED CARD OF 'gussetlaw21.SchursErrors'. -/
def schursErrorsCard : Claim7 := { stood := { row := schursErrorsRow, standIns := [], harness := (true, "11a0f7c797c2431c5e340431bd1bbae807883552217f6806d3a0b7fd976e3776"), looks := false }, kinds := [], alts := [], laidByText := true, laidKinds := [.data, .data, .data], laidTests := true, laidLooks := .later }
def SchursErrorsCardSaid : Prop := Claim7.holds Tryz.pinned (.plain (OpenSpec.ofChange schursErrorsSpec)) schursErrorsCard

/-- THE TIED CARD OF 'gussetlaw21.SchursQuotient'. -/
def schursQuotientCard : Claim7 := { stood := { row := schursQuotientRow, standIns := [], harness := (true, "11a0f7c797c2431c5e340431bd1bbae807883552217f6806d3a0b7fd976e3776"), looks := false }, kinds := [], alts := [], laidByText := true, laidKinds := [.data, .data, .data], laidTests := true, laidLooks := .later }
def SchursQuotientCardSaid : Prop := Claim7.holds Tryz.pinned (.plain (OpenSpec.ofChange schursQuotientSpec)) schursQuotientCard

/-- THE TIED CARD OF 'gussetlaw21.SchursExtend'. -/
def schursExtendCard : Claim7 := { stood := { row := schursExtendRow, standIns := [], harness := (true, "11a0f7c797c2431c5e340431bd1bbae807883552217f6806d3a0b7fd976e3776"), looks := false }, kinds := [], alts := [], laidByText := true, laidKinds := [.data, .data, .data], laidTests := true, laidLooks := .later }
def SchursExtendCardSaid : Prop := Claim7.holds Tryz.pinned (.plain (OpenSpec.ofChange schursExtendSpec)) schursExtendCard

/-- THE TIED CARD OF 'gussetlaw21.SchursSolves'. -/
def schursSolvesCard : Claim7 := { stood := { row := schursSolvesRow, standIns := [], harness := (true, "11a0f7c797c2431c5e340431bd1bbae807883552217f6806d3a0b7fd976e3776"), looks := false }, kinds := [], alts := [], laidByText := true, laidKinds := [.data, .data, .data], laidTests := true, laidLooks := .later }
def SchursSolvesCardSaid : Prop := Claim7.holds Tryz.pinned (.plain (OpenSpec.ofChange schursSolvesSpec)) schursSolvesCard

/-- THE TIED CARD OF 'gussetlaw21.SchursComplement'. -/
def schursComplementCard : Claim7 := { stood := { row := schursComplementRow, standIns := [], harness := (true, "11a0f7c797c2431c5e340431bd1bbae807883552217f6806d3a0b7fd976e3776"), looks := false }, kinds := [], alts := [], laidByText := true, laidKinds := [.data, .data, .data], laidTests := true, laidLooks := .later }
def SchursComplementCardSaid : Prop := Claim7.holds Tryz.pinned (.plain (OpenSpec.ofChange schursComplementSpec)) schursComplementCard

/-- THE SECOND FORM's CARD OF 'gussetlaw21.SchursErrors'. -/
def schursErrorsUptoCard : Claim7 := { stood := { row := schursErrorsUptoRow, standIns := [], harness := (true, "11a0f7c797c2431c5e340431bd1bbae807883552217f6806d3a0b7fd976e3776"), looks := false }, kinds := [], alts := [], laidByText := true, laidKinds := [.data, .data, .data], laidTests := true, laidLooks := .later }
def SchursErrorsUptoCardSaid : Prop := Claim7.holds Tryz.pinned (.plain (OpenSpec.upto schursErrorsSpec)) schursErrorsUptoCard

/-- THE SECOND FORM's CARD OF 'gussetlaw21.SchursQuotient'. -/
def schursQuotientUptoCard : Claim7 := { stood := { row := schursQuotientUptoRow, standIns := [], harness := (true, "11a0f7c797c2431c5e340431bd1bbae807883552217f6806d3a0b7fd976e3776"), looks := false }, kinds := [], alts := [], laidByText := true, laidKinds := [.data, .data, .data], laidTests := true, laidLooks := .later }
def SchursQuotientUptoCardSaid : Prop := Claim7.holds Tryz.pinned (.plain (OpenSpec.upto schursQuotientSpec)) schursQuotientUptoCard

/-- THE SECOND FORM's CARD OF 'gussetlaw21.SchursExtend'. -/
def schursExtendUptoCard : Claim7 := { stood := { row := schursExtendUptoRow, standIns := [], harness := (true, "11a0f7c797c2431c5e340431bd1bbae807883552217f6806d3a0b7fd976e3776"), looks := false }, kinds := [], alts := [], laidByText := true, laidKinds := [.data, .data, .data], laidTests := true, laidLooks := .later }
def SchursExtendUptoCardSaid : Prop := Claim7.holds Tryz.pinned (.plain (OpenSpec.upto schursExtendSpec)) schursExtendUptoCard

/-- THE SECOND FORM's CARD OF 'gussetlaw21.SchursSolves'. -/
def schursSolvesUptoCard : Claim7 := { stood := { row := schursSolvesUptoRow, standIns := [], harness := (true, "11a0f7c797c2431c5e340431bd1bbae807883552217f6806d3a0b7fd976e3776"), looks := false }, kinds := [], alts := [], laidByText := true, laidKinds := [.data, .data, .data], laidTests := true, laidLooks := .later }
def SchursSolvesUptoCardSaid : Prop := Claim7.holds Tryz.pinned (.plain (OpenSpec.upto schursSolvesSpec)) schursSolvesUptoCard

/-- THE SECOND FORM's CARD OF 'gussetlaw21.SchursComplement'. -/
def schursComplementUptoCard : Claim7 := { stood := { row := schursComplementUptoRow, standIns := [], harness := (true, "11a0f7c797c2431c5e340431bd1bbae807883552217f6806d3a0b7fd976e3776"), looks := false }, kinds := [], alts := [], laidByText := true, laidKinds := [.data, .data, .data], laidTests := true, laidLooks := .later }
def SchursComplementUptoCardSaid : Prop := Claim7.holds Tryz.pinned (.plain (OpenSpec.upto schursComplementSpec)) schursComplementUptoCard
end Rows
end Go.Proofs.YthblojaeoiemmaaGreatDoor
