/-
  DERIVED. GIVEN WITH THE SEED: THE CARDS: each row of YtojmepkhbebllaaDoorRows.lean that lists a variable, with what it lists TIED to the program's text (the seventh form; the later family's looks); each row that meets fmt, with fmt's text TOLD by the authors' own Lean function (tested against real Go, not proved from fmt's source: count such statements apart). THE CARD IS WHAT COUNTS. Prove the row's statement (the work); the ties are given (YtojmepkhbebllaaDoorTie.lean); close each card by the builder's one call (the guide's Derived/Test/ToyasCard.lean, 'card_holds'). Laid BY PROGRAM, IN A SANDBOX (cutbox-door.mjs). By AI agents, Wed Nov 11 2026. No macro, syntax, notation, axiom, sorry.
-/
import Derived.Test.YtojmepkhbebllaaDoorRows
import GoSem.ClaimSeven
namespace Go.Proofs.YtojmepkhbebllaaDoor
namespace Rows

/-- THE TIED CARD OF 'hallmarklaw06.ShowOps'. -/
def showOpsCard : Claim7 := { stood := { row := showOpsRow, standIns := [], harness := (true, "c65a91cac27f8eb8109a366072a2eb0cf851acfcf36b3851ec61ae11b2ca1df3"), looks := false }, kinds := [], alts := [], laidByText := true, laidKinds := [.data, .data, .data, .data, .widerDeep, .widerDeep], laidTests := true, laidLooks := .later }
def ShowOpsCardSaid : Prop := Claim7.holds Tryd.pinned (.plain (OpenSpec.ofChange showOpsSpec)) showOpsCard

/-- THE TIED CARD OF 'hallmarklaw06.ShowTypes'. -/
def showTypesCard : Claim7 := { stood := { row := showTypesRow, standIns := [], harness := (true, "c65a91cac27f8eb8109a366072a2eb0cf851acfcf36b3851ec61ae11b2ca1df3"), looks := false }, kinds := [], alts := [], laidByText := true, laidKinds := [.data, .data, .data, .data, .data, .widerDeep, .widerDeep], laidTests := true, laidLooks := .later }
def ShowTypesCardSaid : Prop := Claim7.holds Tryd.pinned (.plain (OpenSpec.ofChange showTypesSpec)) showTypesCard

/-- THE TIED CARD OF 'hallmarklaw06.ShowApart'. -/
def showApartCard : Claim7 := { stood := { row := showApartRow, standIns := [], harness := (true, "c65a91cac27f8eb8109a366072a2eb0cf851acfcf36b3851ec61ae11b2ca1df3"), looks := false }, kinds := [], alts := [], laidByText := true, laidKinds := [.data, .data, .data, .data, .data, .widerDeep, .widerDeep], laidTests := true, laidLooks := .later }
def ShowApartCardSaid : Prop := Claim7.holds Tryd.pinned (.plain (OpenSpec.ofChange showApartSpec)) showApartCard

/-- THE TIED CARD OF 'hallmarklaw06.ShowProgs'. -/
def showProgsCard : Claim7 := { stood := { row := showProgsRow, standIns := [], harness := (true, "c65a91cac27f8eb8109a366072a2eb0cf851acfcf36b3851ec61ae11b2ca1df3"), looks := false }, kinds := [], alts := [], laidByText := true, laidKinds := [.data, .data, .data, .data, .data, .widerDeep, .widerDeep], laidTests := true, laidLooks := .later }
def ShowProgsCardSaid : Prop := Claim7.holds Tryd.pinned (.plain (OpenSpec.ofChange showProgsSpec)) showProgsCard

/-- THE SECOND FORM's CARD OF 'hallmarklaw06.ShowOps'. -/
def showOpsUptoCard : Claim7 := { stood := { row := showOpsUptoRow, standIns := [], harness := (true, "c65a91cac27f8eb8109a366072a2eb0cf851acfcf36b3851ec61ae11b2ca1df3"), looks := false }, kinds := [], alts := [], laidByText := true, laidKinds := [.data, .data, .data, .data, .widerDeep, .widerDeep], laidTests := true, laidLooks := .later }
def ShowOpsUptoCardSaid : Prop := Claim7.holds Tryd.pinned (.plain (OpenSpec.upto showOpsSpec)) showOpsUptoCard

/-- THE SECOND FORM's CARD OF 'hallmarklaw06.ShowTypes'. -/
def showTypesUptoCard : Claim7 := { stood := { row := showTypesUptoRow, standIns := [], harness := (true, "c65a91cac27f8eb8109a366072a2eb0cf851acfcf36b3851ec61ae11b2ca1df3"), looks := false }, kinds := [], alts := [], laidByText := true, laidKinds := [.data, .data, .data, .data, .data, .widerDeep, .widerDeep], laidTests := true, laidLooks := .later }
def ShowTypesUptoCardSaid : Prop := Claim7.holds Tryd.pinned (.plain (OpenSpec.upto showTypesSpec)) showTypesUptoCard

/-- THE SECOND FORM's CARD OF 'hallmarklaw06.ShowApart'. -/
def showApartUptoCard : Claim7 := { stood := { row := showApartUptoRow, standIns := [], harness := (true, "c65a91cac27f8eb8109a366072a2eb0cf851acfcf36b3851ec61ae11b2ca1df3"), looks := false }, kinds := [], alts := [], laidByText := true, laidKinds := [.data, .data, .data, .data, .data, .widerDeep, .widerDeep], laidTests := true, laidLooks := .later }
def ShowApartUptoCardSaid : Prop := Claim7.holds Tryd.pinned (.plain (OpenSpec.upto showApartSpec)) showApartUptoCard

/-- THE SECOND FORM's CARD OF 'hallmarklaw06.ShowProgs'. -/
def showProgsUptoCard : Claim7 := { stood := { row := showProgsUptoRow, standIns := [], harness := (true, "c65a91cac27f8eb8109a366072a2eb0cf851acfcf36b3851ec61ae11b2ca1df3"), looks := false }, kinds := [], alts := [], laidByText := true, laidKinds := [.data, .data, .data, .data, .data, .widerDeep, .widerDeep], laidTests := true, laidLooks := .later }
def ShowProgsUptoCardSaid : Prop := Claim7.holds Tryd.pinned (.plain (OpenSpec.upto showProgsSpec)) showProgsUptoCard
end Rows
end Go.Proofs.YtojmepkhbebllaaDoor
