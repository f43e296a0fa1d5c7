/-
  NARROWER THAN 'FOR EVERY INPUT', by the rows' own cells (each row's printed sentence says how): KindTypes: laid · KindFlags: laid · KindFields: laid · KindUses: laid · KindResults: laid.
  DERIVED. THE GIVEN ROWS OF THIS SEAT. 5 by the template 'for every input the law returns true; each argument reads behind the call as it read before'; 0 by the template 'total and deterministic' (their statements: YtbjdiaefchcbjaaDoorTotals.lean).
  GIVEN WITH THE SEED: the statements are not yours to turn. If you find one false, say at which input.
  Laid BY PROGRAM, IN A SANDBOX (cutbox-rows.mjs): the forced cells as the released guide's own fill.sh prints them over the translation fd9789d1ddcf2fd4… (all of the seat's roots in one cut). By AI agents, Wed Nov 11 2026. No macro, syntax, notation, axiom, sorry.
-/
import Derived.Test.YtbjdiaefchcbjaaDoorChecked
import GoSem.Claim
import GoSem.ClaimJoined
import GoSem.ClaimMapViews
import Derived.JoinedTies
import Derived.KernelRfl
namespace Go.Proofs.YtbjdiaefchcbjaaDoor
/- THE CELL 'sum', in the pinned program and in every row, IS THE sha256 OF THE DUMP (.gsa) THAT YtbjdiaefchcbjaaDoorProg.lean LOADS. Nothing in Lean hashes anything: it is a label: what it is worth is what the hold of that sum in a sandbox is worth. -/
noncomputable def Tryd.pinned : Pinned := { name := "ytbjdiaefchcbjaadoor", sum := "fd9789d1ddcf2fd48b7c0d074f7ae631f223a74f88f2e14e02dba0d6ca43b43f", checked := Tryd.checked }
namespace Rows
def none {H : Type} : Left H := { results := [], args := [] }

/- WHAT THE LISTED PACKAGE-LEVEL VARIABLES READ AS WHEN THE CALL BEGINS. Each datum BY PROGRAM (the guide's laid-datum.mjs) off the statement by which the dump's own 'gosem.cut.vars' lays the variable. In a bare row this is a premise. The card (YtbjdiaefchcbjaaDoorCards.lean) ties it to the program's text. -/
def laid_hallmark_kind_fields {H : Type} : DataW H := .agg [.lit (.string [78]), .lit (.string [78]), .lit (.string [83]), .lit (.string [78, 65, 66]), .lit (.string [65]), .lit (.string [65, 66]), .lit (.string [65]), .lit (.string [65, 66]), .lit (.string [65, 66]), .lit (.string [78, 76, 75]), .lit (.string [78, 65]), .lit (.string [78, 65, 66]), .lit (.string [78, 75]), .lit (.string [65]), .lit (.string [65]), .lit (.string [65, 66]), .lit (.string [65, 66, 67]), .lit (.string [75]), .lit (.string [65, 66, 67]), .lit (.string [65, 66]), .lit (.string [65]), .lit (.string [65, 66]), .lit (.string [65]), .lit (.string [78, 76]), .lit (.string [78, 65, 76]), .lit (.string [65])]

/-- 'hallmarklaw04.KindTypes': WHATEVER THE INPUT: true; the input reads as it did. -/
def kindTypesSpec : ChangeSpec := { name := "kindTypes", fn := fun _ => fun
  | [d1, d2] => { results := [.lit (.bool true)], args := [d1, d2] }
  | _ => none }
def kindTypesRow : OpenClaim := { program := "ytbjdiaefchcbjaadoor", sum := "fd9789d1ddcf2fd48b7c0d074f7ae631f223a74f88f2e14e02dba0d6ca43b43f", func := "hallmark/hallmarklaw04.KindTypes", spec := "kindTypes", inPlace := ["internal/bytealg.IndexByteString"], unfollowed := true, recurses := true, named := ["hallmark/kind.fields"], apart := false, laid := [("hallmark/kind.fields", laid_hallmark_kind_fields)] }
def KindTypesSaid : Prop := kindTypesRow.holds Tryd.pinned (OpenSpec.ofChange kindTypesSpec)

/-- ITS FALSE NEIGHBOUR: 'it returns false'. Refute it at one input. -/
def kindTypesWrong : ChangeSpec := { name := "kindTypes", fn := fun _ => fun
  | [d1, d2] => { results := [.lit (.bool false)], args := [d1, d2] }
  | _ => none }
def KindTypesWrongFalsely : Prop := kindTypesRow.holds Tryd.pinned (OpenSpec.ofChange kindTypesWrong)

/-- 'hallmarklaw04.KindFlags': WHATEVER THE INPUT: true; the input reads as it did. -/
def kindFlagsSpec : ChangeSpec := { name := "kindFlags", fn := fun _ => fun
  | [d] => { results := [.lit (.bool true)], args := [d] }
  | _ => none }
def kindFlagsRow : OpenClaim := { program := "ytbjdiaefchcbjaadoor", sum := "fd9789d1ddcf2fd48b7c0d074f7ae631f223a74f88f2e14e02dba0d6ca43b43f", func := "hallmark/hallmarklaw04.KindFlags", spec := "kindFlags", inPlace := ["internal/bytealg.IndexByteString"], unfollowed := true, recurses := true, named := ["hallmark/kind.fields"], apart := false, laid := [("hallmark/kind.fields", laid_hallmark_kind_fields)] }
def KindFlagsSaid : Prop := kindFlagsRow.holds Tryd.pinned (OpenSpec.ofChange kindFlagsSpec)

/-- ITS FALSE NEIGHBOUR: 'it returns false'. Refute it at one input. -/
def kindFlagsWrong : ChangeSpec := { name := "kindFlags", fn := fun _ => fun
  | [d] => { results := [.lit (.bool false)], args := [d] }
  | _ => none }
def KindFlagsWrongFalsely : Prop := kindFlagsRow.holds Tryd.pinned (OpenSpec.ofChange kindFlagsWrong)

/-- 'hallmarklaw04.KindFields': WHATEVER THE INPUT: true; the input reads as it did. -/
def kindFieldsSpec : ChangeSpec := { name := "kindFields", fn := fun _ => fun
  | [d] => { results := [.lit (.bool true)], args := [d] }
  | _ => none }
def kindFieldsRow : OpenClaim := { program := "ytbjdiaefchcbjaadoor", sum := "fd9789d1ddcf2fd48b7c0d074f7ae631f223a74f88f2e14e02dba0d6ca43b43f", func := "hallmark/hallmarklaw04.KindFields", spec := "kindFields", inPlace := ["internal/bytealg.IndexByteString"], unfollowed := true, recurses := true, named := ["hallmark/kind.fields"], apart := false, laid := [("hallmark/kind.fields", laid_hallmark_kind_fields)] }
def KindFieldsSaid : Prop := kindFieldsRow.holds Tryd.pinned (OpenSpec.ofChange kindFieldsSpec)

/-- ITS FALSE NEIGHBOUR: 'it returns false'. Refute it at one input. -/
def kindFieldsWrong : ChangeSpec := { name := "kindFields", fn := fun _ => fun
  | [d] => { results := [.lit (.bool false)], args := [d] }
  | _ => none }
def KindFieldsWrongFalsely : Prop := kindFieldsRow.holds Tryd.pinned (OpenSpec.ofChange kindFieldsWrong)

/-- 'hallmarklaw04.KindUses': WHATEVER THE INPUT: true; the input reads as it did. -/
def kindUsesSpec : ChangeSpec := { name := "kindUses", fn := fun _ => fun
  | [d1, d2] => { results := [.lit (.bool true)], args := [d1, d2] }
  | _ => none }
def kindUsesRow : OpenClaim := { program := "ytbjdiaefchcbjaadoor", sum := "fd9789d1ddcf2fd48b7c0d074f7ae631f223a74f88f2e14e02dba0d6ca43b43f", func := "hallmark/hallmarklaw04.KindUses", spec := "kindUses", inPlace := ["internal/bytealg.IndexByteString"], unfollowed := true, recurses := true, named := ["hallmark/kind.fields"], apart := false, laid := [("hallmark/kind.fields", laid_hallmark_kind_fields)] }
def KindUsesSaid : Prop := kindUsesRow.holds Tryd.pinned (OpenSpec.ofChange kindUsesSpec)

/-- ITS FALSE NEIGHBOUR: 'it returns false'. Refute it at one input. -/
def kindUsesWrong : ChangeSpec := { name := "kindUses", fn := fun _ => fun
  | [d1, d2] => { results := [.lit (.bool false)], args := [d1, d2] }
  | _ => none }
def KindUsesWrongFalsely : Prop := kindUsesRow.holds Tryd.pinned (OpenSpec.ofChange kindUsesWrong)

/-- 'hallmarklaw04.KindResults': WHATEVER THE INPUT: true; the input reads as it did. -/
def kindResultsSpec : ChangeSpec := { name := "kindResults", fn := fun _ => fun
  | [d1, d2, d3] => { results := [.lit (.bool true)], args := [d1, d2, d3] }
  | _ => none }
def kindResultsRow : OpenClaim := { program := "ytbjdiaefchcbjaadoor", sum := "fd9789d1ddcf2fd48b7c0d074f7ae631f223a74f88f2e14e02dba0d6ca43b43f", func := "hallmark/hallmarklaw04.KindResults", spec := "kindResults", inPlace := ["internal/bytealg.IndexByteString"], unfollowed := true, recurses := true, named := ["hallmark/kind.fields"], apart := false, laid := [("hallmark/kind.fields", laid_hallmark_kind_fields)] }
def KindResultsSaid : Prop := kindResultsRow.holds Tryd.pinned (OpenSpec.ofChange kindResultsSpec)

/-- ITS FALSE NEIGHBOUR: 'it returns false'. Refute it at one input. -/
def kindResultsWrong : ChangeSpec := { name := "kindResults", fn := fun _ => fun
  | [d1, d2, d3] => { results := [.lit (.bool false)], args := [d1, d2, d3] }
  | _ => none }
def KindResultsWrongFalsely : Prop := kindResultsRow.holds Tryd.pinned (OpenSpec.ofChange kindResultsWrong)

/- THE SECOND FORM. 'bulk': how many values and letters a reading holds, each counted each time it is reached (what is shared counts as often as it is met; a slice's spare places count too). A statement '..UptoSaid' is the law's where the arguments, and the package variables that the reading takes, are together of bulk at most 1048576: NARROWER than '..Said'. Prove '..Said' where nothing that the law and all that it calls make is longer than what came in: it says more and counts as full. Else prove '..UptoSaid'. A law counts once. -/
mutual
def uptoBulk {H : Type} : DataW H → Nat
  | .lit (.string bytes) => bytes.length + 1
  | .lit _ => 1
  | .nil => 1
  | .ptr d => uptoBulk d + 1
  | .slice elems spare => uptoBulkAll elems + uptoBulkAll spare + 1
  | .agg parts => uptoBulkAll parts + 1
  | .iface _ d => uptoBulk d + 1
  | .map entries => uptoBulkEntries entries + 1
  | .held _ => 1
def uptoBulkAll {H : Type} : List (DataW H) → Nat
  | [] => 0
  | d :: r => uptoBulk d + uptoBulkAll r
def uptoBulkEntries {H : Type} : List (Lit × DataW H) → Nat
  | [] => 0
  | x :: r => uptoBulkEntry x + uptoBulkEntries r
def uptoBulkEntry {H : Type} : Lit × DataW H → Nat
  | (.string bytes, d) => bytes.length + uptoBulk d + 1
  | (_, d) => uptoBulk d + 1
 end
def uptoSmall : (H : Type) → List (DataW H) → Bool := fun _ ds => decide (uptoBulkAll ds ≤ 1048576)
def OpenSpec.upto (s : _root_.Go.ChangeSpec) : _root_.Go.OpenSpec := { _root_.Go.OpenSpec.ofChange s with cond := some uptoSmall }

/-- 'hallmarklaw04.KindTypes', WHERE WHAT IT READS IS OF BULK AT MOST 1048576: true; the input reads as it did. -/
def kindTypesUptoRow : OpenClaim := { program := "ytbjdiaefchcbjaadoor", sum := "fd9789d1ddcf2fd48b7c0d074f7ae631f223a74f88f2e14e02dba0d6ca43b43f", func := "hallmark/hallmarklaw04.KindTypes", spec := "kindTypes", inPlace := ["internal/bytealg.IndexByteString"], unfollowed := true, recurses := true, named := ["hallmark/kind.fields"], apart := false, laid := [("hallmark/kind.fields", laid_hallmark_kind_fields)], narrowed := true }
def KindTypesUptoSaid : Prop := kindTypesUptoRow.holds Tryd.pinned (OpenSpec.upto kindTypesSpec)

/-- 'hallmarklaw04.KindFlags', WHERE WHAT IT READS IS OF BULK AT MOST 1048576: true; the input reads as it did. -/
def kindFlagsUptoRow : OpenClaim := { program := "ytbjdiaefchcbjaadoor", sum := "fd9789d1ddcf2fd48b7c0d074f7ae631f223a74f88f2e14e02dba0d6ca43b43f", func := "hallmark/hallmarklaw04.KindFlags", spec := "kindFlags", inPlace := ["internal/bytealg.IndexByteString"], unfollowed := true, recurses := true, named := ["hallmark/kind.fields"], apart := false, laid := [("hallmark/kind.fields", laid_hallmark_kind_fields)], narrowed := true }
def KindFlagsUptoSaid : Prop := kindFlagsUptoRow.holds Tryd.pinned (OpenSpec.upto kindFlagsSpec)

/-- 'hallmarklaw04.KindFields', WHERE WHAT IT READS IS OF BULK AT MOST 1048576: true; the input reads as it did. -/
def kindFieldsUptoRow : OpenClaim := { program := "ytbjdiaefchcbjaadoor", sum := "fd9789d1ddcf2fd48b7c0d074f7ae631f223a74f88f2e14e02dba0d6ca43b43f", func := "hallmark/hallmarklaw04.KindFields", spec := "kindFields", inPlace := ["internal/bytealg.IndexByteString"], unfollowed := true, recurses := true, named := ["hallmark/kind.fields"], apart := false, laid := [("hallmark/kind.fields", laid_hallmark_kind_fields)], narrowed := true }
def KindFieldsUptoSaid : Prop := kindFieldsUptoRow.holds Tryd.pinned (OpenSpec.upto kindFieldsSpec)

/-- 'hallmarklaw04.KindUses', WHERE WHAT IT READS IS OF BULK AT MOST 1048576: true; the input reads as it did. -/
def kindUsesUptoRow : OpenClaim := { program := "ytbjdiaefchcbjaadoor", sum := "fd9789d1ddcf2fd48b7c0d074f7ae631f223a74f88f2e14e02dba0d6ca43b43f", func := "hallmark/hallmarklaw04.KindUses", spec := "kindUses", inPlace := ["internal/bytealg.IndexByteString"], unfollowed := true, recurses := true, named := ["hallmark/kind.fields"], apart := false, laid := [("hallmark/kind.fields", laid_hallmark_kind_fields)], narrowed := true }
def KindUsesUptoSaid : Prop := kindUsesUptoRow.holds Tryd.pinned (OpenSpec.upto kindUsesSpec)

/-- 'hallmarklaw04.KindResults', WHERE WHAT IT READS IS OF BULK AT MOST 1048576: true; the input reads as it did. -/
def kindResultsUptoRow : OpenClaim := { program := "ytbjdiaefchcbjaadoor", sum := "fd9789d1ddcf2fd48b7c0d074f7ae631f223a74f88f2e14e02dba0d6ca43b43f", func := "hallmark/hallmarklaw04.KindResults", spec := "kindResults", inPlace := ["internal/bytealg.IndexByteString"], unfollowed := true, recurses := true, named := ["hallmark/kind.fields"], apart := false, laid := [("hallmark/kind.fields", laid_hallmark_kind_fields)], narrowed := true }
def KindResultsUptoSaid : Prop := kindResultsUptoRow.holds Tryd.pinned (OpenSpec.upto kindResultsSpec)

end Rows
end Go.Proofs.YtbjdiaefchcbjaaDoor
