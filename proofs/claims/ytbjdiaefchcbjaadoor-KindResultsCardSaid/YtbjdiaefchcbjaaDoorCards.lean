/-
  DERIVED. GIVEN WITH THE SEED: THE CARDS: each row of YtbjdiaefchcbjaaDoorRows.lean that lists a variable, with what it lists TIED to the program's text (the seventh form; the later family's looks); each row that meets fmt, with fmt's text TOLD by the authors' own Lean function (tested against real Go, not proved from fmt's source: count such statements apart). THE CARD IS WHAT COUNTS. Prove the row's statement (the work); the ties are given (YtbjdiaefchcbjaaDoorTie.lean); close each card by the builder's one call (the guide's Derived/Test/ToyasCard.lean, 'card_holds'). Laid BY PROGRAM, IN A SANDBOX (cutbox-door.mjs). By AI agents, Wed Nov 11 2026. No macro, syntax, notation, axiom, sorry.
-/
import Derived.Test.YtbjdiaefchcbjaaDoorRows
import GoSem.ClaimSeven
namespace Go.Proofs.YtbjdiaefchcbjaaDoor
namespace Rows

/-- THE TIED CARD OF 'hallmarklaw04.KindTypes'. -/
def kindTypesCard : Claim7 := { stood := { row := kindTypesRow, standIns := [], harness := (true, "1e14f1c1a0a7d3f3db0f7dc0f2d8b56a120b03ffd646a7ab17320304e7f6dc2a"), looks := false }, kinds := [], alts := [], laidByText := true, laidKinds := [.data], laidTests := true, laidLooks := .later }
def KindTypesCardSaid : Prop := Claim7.holds Tryd.pinned (.plain (OpenSpec.ofChange kindTypesSpec)) kindTypesCard

/-- THE TIED CARD OF 'hallmarklaw04.KindFlags'. -/
def kindFlagsCard : Claim7 := { stood := { row := kindFlagsRow, standIns := [], harness := (true, "1e14f1c1a0a7d3f3db0f7dc0f2d8b56a120b03ffd646a7ab17320304e7f6dc2a"), looks := false }, kinds := [], alts := [], laidByText := true, laidKinds := [.data], laidTests := true, laidLooks := .later }
def KindFlagsCardSaid : Prop := Claim7.holds Tryd.pinned (.plain (OpenSpec.ofChange kindFlagsSpec)) kindFlagsCard

/-- THE TIED CARD OF 'hallmarklaw04.KindFields'. -/
def kindFieldsCard : Claim7 := { stood := { row := kindFieldsRow, standIns := [], harness := (true, "1e14f1c1a0a7d3f3db0f7dc0f2d8b56a120b03ffd646a7ab17320304e7f6dc2a"), looks := false }, kinds := [], alts := [], laidByText := true, laidKinds := [.data], laidTests := true, laidLooks := .later }
def KindFieldsCardSaid : Prop := Claim7.holds Tryd.pinned (.plain (OpenSpec.ofChange kindFieldsSpec)) kindFieldsCard

/-- THE TIED CARD OF 'hallmarklaw04.KindUses'. -/
def kindUsesCard : Claim7 := { stood := { row := kindUsesRow, standIns := [], harness := (true, "1e14f1c1a0a7d3f3db0f7dc0f2d8b56a120b03ffd646a7ab17320304e7f6dc2a"), looks := false }, kinds := [], alts := [], laidByText := true, laidKinds := [.data], laidTests := true, laidLooks := .later }
def KindUsesCardSaid : Prop := Claim7.holds Tryd.pinned (.plain (OpenSpec.ofChange kindUsesSpec)) kindUsesCard

/-- THE TIED CARD OF 'hallmarklaw04.KindResults'. -/
def kindResultsCard : Claim7 := { stood := { row := kindResultsRow, standIns := [], harness := (true, "1e14f1c1a0a7d3f3db0f7dc0f2d8b56a120b03ffd646a7ab17320304e7f6dc2a"), looks := false }, kinds := [], alts := [], laidByText := true, laidKinds := [.data], laidTests := true, laidLooks := .later }
def KindResultsCardSaid : Prop := Claim7.holds Tryd.pinned (.plain (OpenSpec.ofChange kindResultsSpec)) kindResultsCard

/-- THE SECOND FORM's CARD OF 'hallmarklaw04.KindTypes'. -/
def kindTypesUptoCard : Claim7 := { stood := { row := kindTypesUptoRow, standIns := [], harness := (true, "1e14f1c1a0a7d3f3db0f7dc0f2d8b56a120b03ffd646a7ab17320304e7f6dc2a"), looks := false }, kinds := [], alts := [], laidByText := true, laidKinds := [.data], laidTests := true, laidLooks := .later }
def KindTypesUptoCardSaid : Prop := Claim7.holds Tryd.pinned (.plain (OpenSpec.upto kindTypesSpec)) kindTypesUptoCard

/-- THE SECOND FORM's CARD OF 'hallmarklaw04.KindFlags'. -/
def kindFlagsUptoCard : Claim7 := { stood := { row := kindFlagsUptoRow, standIns := [], harness := (true, "1e14f1c1a0a7d3f3db0f7dc0f2d8b56a120b03ffd646a7ab17320304e7f6dc2a"), looks := false }, kinds := [], alts := [], laidByText := true, laidKinds := [.data], laidTests := true, laidLooks := .later }
def KindFlagsUptoCardSaid : Prop := Claim7.holds Tryd.pinned (.plain (OpenSpec.upto kindFlagsSpec)) kindFlagsUptoCard

/-- THE SECOND FORM's CARD OF 'hallmarklaw04.KindFields'. -/
def kindFieldsUptoCard : Claim7 := { stood := { row := kindFieldsUptoRow, standIns := [], harness := (true, "1e14f1c1a0a7d3f3db0f7dc0f2d8b56a120b03ffd646a7ab17320304e7f6dc2a"), looks := false }, kinds := [], alts := [], laidByText := true, laidKinds := [.data], laidTests := true, laidLooks := .later }
def KindFieldsUptoCardSaid : Prop := Claim7.holds Tryd.pinned (.plain (OpenSpec.upto kindFieldsSpec)) kindFieldsUptoCard

/-- THE SECOND FORM's CARD OF 'hallmarklaw04.KindUses'. -/
def kindUsesUptoCard : Claim7 := { stood := { row := kindUsesUptoRow, standIns := [], harness := (true, "1e14f1c1a0a7d3f3db0f7dc0f2d8b56a120b03ffd646a7ab17320304e7f6dc2a"), looks := false }, kinds := [], alts := [], laidByText := true, laidKinds := [.data], laidTests := true, laidLooks := .later }
def KindUsesUptoCardSaid : Prop := Claim7.holds Tryd.pinned (.plain (OpenSpec.upto kindUsesSpec)) kindUsesUptoCard

/-- THE SECOND FORM's CARD OF 'hallmarklaw04.KindResults'. -/
def kindResultsUptoCard : Claim7 := { stood := { row := kindResultsUptoRow, standIns := [], harness := (true, "1e14f1c1a0a7d3f3db0f7dc0f2d8b56a120b03ffd646a7ab17320304e7f6dc2a"), looks := false }, kinds := [], alts := [], laidByText := true, laidKinds := [.data], laidTests := true, laidLooks := .later }
def KindResultsUptoCardSaid : Prop := Claim7.holds Tryd.pinned (.plain (OpenSpec.upto kindResultsSpec)) kindResultsUptoCard
end Rows
end Go.Proofs.YtbjdiaefchcbjaaDoor
