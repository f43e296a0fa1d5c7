/-
  NARROWER THAN 'FOR EVERY INPUT', by the rows' own cells (each row's printed sentence says how): ShowOps: laid · ShowTypes: laid · ShowApart: laid · ShowProgs: laid.
  DERIVED. THE GIVEN ROWS OF THIS SEAT. 4 by the template 'for every input the law returns true; each argument reads behind the call as it read before'; 0 by the template 'total and deterministic' (their statements: YtojmepkhbebllaaDoorTotals.lean).
  GIVEN WITH THE SEED: the statements are not yours to turn. If you find one false, say at which input.
  Laid BY PROGRAM, IN A SANDBOX (cutbox-rows.mjs): the forced cells as the released guide's own fill.sh prints them over the translation 03ebccafdbd77f33… (all of the seat's roots in one cut). By AI agents, Wed Nov 11 2026. No macro, syntax, notation, axiom, sorry.
-/
import Derived.Test.YtojmepkhbebllaaDoorChecked
import GoSem.Claim
import GoSem.ClaimJoined
import GoSem.ClaimMapViews
import Derived.JoinedTies
import Derived.KernelRfl
namespace Go.Proofs.YtojmepkhbebllaaDoor
/- THE CELL 'sum', in the pinned program and in every row, IS THE sha256 OF THE DUMP (.gsa) THAT YtojmepkhbebllaaDoorProg.lean LOADS. Nothing in Lean hashes anything: it is a label: what it is worth is what the hold of that sum in a sandbox is worth. -/
noncomputable def Tryd.pinned : Pinned := { name := "ytojmepkhbebllaadoor", sum := "03ebccafdbd77f3313cc598d937047ec2f02d0e97c52b7892a4e838868138b82", checked := Tryd.checked }
namespace Rows
def none {H : Type} : Left H := { results := [], args := [] }

/- WHAT THE LISTED PACKAGE-LEVEL VARIABLES READ AS WHEN THE CALL BEGINS. Each datum BY PROGRAM (the guide's laid-datum.mjs) off the statement by which the dump's own 'gosem.cut.vars' lays the variable. In a bare row this is a premise. The card (YtojmepkhbebllaaDoorCards.lean) ties it to the program's text. -/
def laid_math_bits_deBruijn32tab {H : Type} : DataW H := .agg [.lit (.int .u8 0), .lit (.int .u8 1), .lit (.int .u8 28), .lit (.int .u8 2), .lit (.int .u8 29), .lit (.int .u8 14), .lit (.int .u8 24), .lit (.int .u8 3), .lit (.int .u8 30), .lit (.int .u8 22), .lit (.int .u8 20), .lit (.int .u8 15), .lit (.int .u8 25), .lit (.int .u8 17), .lit (.int .u8 4), .lit (.int .u8 8), .lit (.int .u8 31), .lit (.int .u8 27), .lit (.int .u8 13), .lit (.int .u8 23), .lit (.int .u8 21), .lit (.int .u8 19), .lit (.int .u8 16), .lit (.int .u8 7), .lit (.int .u8 26), .lit (.int .u8 12), .lit (.int .u8 18), .lit (.int .u8 6), .lit (.int .u8 11), .lit (.int .u8 5), .lit (.int .u8 10), .lit (.int .u8 9)]
def laid_math_bits_deBruijn64tab {H : Type} : DataW H := .agg [.lit (.int .u8 0), .lit (.int .u8 1), .lit (.int .u8 56), .lit (.int .u8 2), .lit (.int .u8 57), .lit (.int .u8 49), .lit (.int .u8 28), .lit (.int .u8 3), .lit (.int .u8 61), .lit (.int .u8 58), .lit (.int .u8 42), .lit (.int .u8 50), .lit (.int .u8 38), .lit (.int .u8 29), .lit (.int .u8 17), .lit (.int .u8 4), .lit (.int .u8 62), .lit (.int .u8 47), .lit (.int .u8 59), .lit (.int .u8 36), .lit (.int .u8 45), .lit (.int .u8 43), .lit (.int .u8 51), .lit (.int .u8 22), .lit (.int .u8 53), .lit (.int .u8 39), .lit (.int .u8 33), .lit (.int .u8 30), .lit (.int .u8 24), .lit (.int .u8 18), .lit (.int .u8 12), .lit (.int .u8 5), .lit (.int .u8 63), .lit (.int .u8 55), .lit (.int .u8 48), .lit (.int .u8 27), .lit (.int .u8 60), .lit (.int .u8 41), .lit (.int .u8 37), .lit (.int .u8 16), .lit (.int .u8 46), .lit (.int .u8 35), .lit (.int .u8 44), .lit (.int .u8 21), .lit (.int .u8 52), .lit (.int .u8 32), .lit (.int .u8 23), .lit (.int .u8 11), .lit (.int .u8 54), .lit (.int .u8 26), .lit (.int .u8 40), .lit (.int .u8 15), .lit (.int .u8 34), .lit (.int .u8 20), .lit (.int .u8 31), .lit (.int .u8 10), .lit (.int .u8 25), .lit (.int .u8 14), .lit (.int .u8 19), .lit (.int .u8 9), .lit (.int .u8 13), .lit (.int .u8 8), .lit (.int .u8 7), .lit (.int .u8 6)]
def laid_internal_strconv_uint64pow10 {H : Type} : DataW H := .agg [.lit (.int .u64 1), .lit (.int .u64 10), .lit (.int .u64 100), .lit (.int .u64 1000), .lit (.int .u64 10000), .lit (.int .u64 100000), .lit (.int .u64 1000000), .lit (.int .u64 10000000), .lit (.int .u64 100000000), .lit (.int .u64 1000000000), .lit (.int .u64 10000000000), .lit (.int .u64 100000000000), .lit (.int .u64 1000000000000), .lit (.int .u64 10000000000000), .lit (.int .u64 100000000000000), .lit (.int .u64 1000000000000000), .lit (.int .u64 10000000000000000), .lit (.int .u64 100000000000000000), .lit (.int .u64 1000000000000000000), .lit (.int .u64 10000000000000000000)]
def laid_hallmark_kind_fields {H : Type} : DataW H := .agg [.lit (.string [78]), .lit (.string [78]), .lit (.string [83]), .lit (.string [78, 65, 66]), .lit (.string [65]), .lit (.string [65, 66]), .lit (.string [65]), .lit (.string [65, 66]), .lit (.string [65, 66]), .lit (.string [78, 76, 75]), .lit (.string [78, 65]), .lit (.string [78, 65, 66]), .lit (.string [78, 75]), .lit (.string [65]), .lit (.string [65]), .lit (.string [65, 66]), .lit (.string [65, 66, 67]), .lit (.string [75]), .lit (.string [65, 66, 67]), .lit (.string [65, 66]), .lit (.string [65]), .lit (.string [65, 66]), .lit (.string [65]), .lit (.string [78, 76]), .lit (.string [78, 65, 76]), .lit (.string [65])]
def laid_hallmark_show_steps {H : Type} : DataW H := .agg [.lit (.string [105, 110, 116]), .lit (.string [98, 111, 111, 108]), .lit (.string [116, 101, 120, 116]), .lit (.string [97, 114, 105, 116, 104]), .lit (.string [110, 111, 116]), .lit (.string [99, 97, 116]), .lit (.string [108, 111, 110, 103]), .lit (.string [98, 121, 116, 101]), .lit (.string [97, 108, 105, 107, 101]), .lit (.string [110, 101, 119]), .lit (.string [103, 101, 116]), .lit (.string [115, 101, 116]), .lit (.string [109, 97, 107, 101]), .lit (.string [114, 111, 111, 109]), .lit (.string [115, 105, 122, 101]), .lit (.string [97, 116]), .lit (.string [112, 117, 116]), .lit (.string [116, 97, 98, 108, 101]), .lit (.string [101, 110, 116, 101, 114]), .lit (.string [108, 111, 111, 107]), .lit (.string [99, 111, 117, 110, 116]), .lit (.string [107, 101, 121]), .lit (.string [102, 97, 99, 101]), .lit (.string [99, 97, 108, 108]), .lit (.string [97, 115, 107]), .lit (.string [116, 101, 108, 108])]
def laid_hallmark_show_signs {H : Type} : DataW H := .agg [.lit (.string [97, 100, 100]), .lit (.string [115, 117, 98]), .lit (.string [109, 117, 108]), .lit (.string [100, 105, 118]), .lit (.string [114, 101, 109]), .lit (.string [97, 110, 100]), .lit (.string [111, 114]), .lit (.string [120, 111, 114]), .lit (.string [115, 104, 108]), .lit (.string [115, 104, 114]), .lit (.string [108, 101, 115, 115]), .lit (.string [109, 111, 115, 116]), .lit (.string [115, 97, 109, 101]), .lit (.string [101, 108, 115, 101])]
def laid_hallmark_show_types {H : Type} : DataW H := .agg [.lit (.string [110, 111, 110, 101]), .lit (.string [105, 110, 116]), .lit (.string [98, 111, 111, 108]), .lit (.string [116, 101, 120, 116]), .lit (.string [115, 108, 105, 99, 101]), .lit (.string [116, 97, 98, 108, 101]), .lit (.string [102, 97, 99, 101])]

/-- 'hallmarklaw06.ShowOps': WHATEVER THE INPUT: true; the input reads as it did. -/
def showOpsSpec : ChangeSpec := { name := "showOps", fn := fun _ => fun
  | [d] => { results := [.lit (.bool true)], args := [d] }
  | _ => none }
def showOpsRow : OpenClaim := { program := "ytojmepkhbebllaadoor", sum := "03ebccafdbd77f3313cc598d937047ec2f02d0e97c52b7892a4e838868138b82", func := "hallmark/hallmarklaw06.ShowOps", spec := "showOps", inPlace := ["internal/abi.NoEscape", "internal/bytealg.MakeNoZero"], unfollowed := true, recurses := true, named := ["hallmark/show.steps", "hallmark/show.signs", "hallmark/kind.fields", "internal/strconv.uint64pow10", "math/bits.deBruijn32tab", "math/bits.deBruijn64tab"], apart := false, laid := [("math/bits.deBruijn32tab", laid_math_bits_deBruijn32tab), ("math/bits.deBruijn64tab", laid_math_bits_deBruijn64tab), ("internal/strconv.uint64pow10", laid_internal_strconv_uint64pow10), ("hallmark/kind.fields", laid_hallmark_kind_fields), ("hallmark/show.steps", laid_hallmark_show_steps), ("hallmark/show.signs", laid_hallmark_show_signs)] }
def ShowOpsSaid : Prop := showOpsRow.holds Tryd.pinned (OpenSpec.ofChange showOpsSpec)

/-- ITS FALSE NEIGHBOUR: 'it returns false'. Refute it at one input. -/
def showOpsWrong : ChangeSpec := { name := "showOps", fn := fun _ => fun
  | [d] => { results := [.lit (.bool false)], args := [d] }
  | _ => none }
def ShowOpsWrongFalsely : Prop := showOpsRow.holds Tryd.pinned (OpenSpec.ofChange showOpsWrong)

/-- 'hallmarklaw06.ShowTypes': WHATEVER THE INPUT: true; the input reads as it did. -/
def showTypesSpec : ChangeSpec := { name := "showTypes", fn := fun _ => fun
  | [d] => { results := [.lit (.bool true)], args := [d] }
  | _ => none }
def showTypesRow : OpenClaim := { program := "ytojmepkhbebllaadoor", sum := "03ebccafdbd77f3313cc598d937047ec2f02d0e97c52b7892a4e838868138b82", func := "hallmark/hallmarklaw06.ShowTypes", spec := "showTypes", inPlace := ["internal/abi.NoEscape", "internal/bytealg.MakeNoZero"], unfollowed := true, recurses := true, named := ["hallmark/show.types", "internal/strconv.uint64pow10", "math/bits.deBruijn32tab", "math/bits.deBruijn64tab", "hallmark/show.steps", "hallmark/show.signs", "hallmark/kind.fields"], apart := false, laid := [("math/bits.deBruijn32tab", laid_math_bits_deBruijn32tab), ("math/bits.deBruijn64tab", laid_math_bits_deBruijn64tab), ("internal/strconv.uint64pow10", laid_internal_strconv_uint64pow10), ("hallmark/kind.fields", laid_hallmark_kind_fields), ("hallmark/show.types", laid_hallmark_show_types), ("hallmark/show.steps", laid_hallmark_show_steps), ("hallmark/show.signs", laid_hallmark_show_signs)] }
def ShowTypesSaid : Prop := showTypesRow.holds Tryd.pinned (OpenSpec.ofChange showTypesSpec)

/-- ITS FALSE NEIGHBOUR: 'it returns false'. Refute it at one input. -/
def showTypesWrong : ChangeSpec := { name := "showTypes", fn := fun _ => fun
  | [d] => { results := [.lit (.bool false)], args := [d] }
  | _ => none }
def ShowTypesWrongFalsely : Prop := showTypesRow.holds Tryd.pinned (OpenSpec.ofChange showTypesWrong)

/-- 'hallmarklaw06.ShowApart': WHATEVER THE INPUT: true; the input reads as it did. -/
def showApartSpec : ChangeSpec := { name := "showApart", fn := fun _ => fun
  | [d1, d2] => { results := [.lit (.bool true)], args := [d1, d2] }
  | _ => none }
def showApartRow : OpenClaim := { program := "ytojmepkhbebllaadoor", sum := "03ebccafdbd77f3313cc598d937047ec2f02d0e97c52b7892a4e838868138b82", func := "hallmark/hallmarklaw06.ShowApart", spec := "showApart", inPlace := ["internal/abi.NoEscape", "internal/bytealg.MakeNoZero"], unfollowed := true, recurses := true, named := ["hallmark/show.steps", "hallmark/show.signs", "hallmark/kind.fields", "internal/strconv.uint64pow10", "math/bits.deBruijn32tab", "math/bits.deBruijn64tab", "hallmark/show.types"], apart := false, laid := [("math/bits.deBruijn32tab", laid_math_bits_deBruijn32tab), ("math/bits.deBruijn64tab", laid_math_bits_deBruijn64tab), ("internal/strconv.uint64pow10", laid_internal_strconv_uint64pow10), ("hallmark/kind.fields", laid_hallmark_kind_fields), ("hallmark/show.types", laid_hallmark_show_types), ("hallmark/show.steps", laid_hallmark_show_steps), ("hallmark/show.signs", laid_hallmark_show_signs)] }
def ShowApartSaid : Prop := showApartRow.holds Tryd.pinned (OpenSpec.ofChange showApartSpec)

/-- ITS FALSE NEIGHBOUR: 'it returns false'. Refute it at one input. -/
def showApartWrong : ChangeSpec := { name := "showApart", fn := fun _ => fun
  | [d1, d2] => { results := [.lit (.bool false)], args := [d1, d2] }
  | _ => none }
def ShowApartWrongFalsely : Prop := showApartRow.holds Tryd.pinned (OpenSpec.ofChange showApartWrong)

/-- 'hallmarklaw06.ShowProgs': WHATEVER THE INPUT: true; the input reads as it did. -/
def showProgsSpec : ChangeSpec := { name := "showProgs", fn := fun _ => fun
  | [d] => { results := [.lit (.bool true)], args := [d] }
  | _ => none }
def showProgsRow : OpenClaim := { program := "ytojmepkhbebllaadoor", sum := "03ebccafdbd77f3313cc598d937047ec2f02d0e97c52b7892a4e838868138b82", func := "hallmark/hallmarklaw06.ShowProgs", spec := "showProgs", inPlace := ["internal/abi.NoEscape", "internal/bytealg.MakeNoZero"], unfollowed := true, recurses := true, named := ["hallmark/show.steps", "hallmark/show.signs", "hallmark/kind.fields", "internal/strconv.uint64pow10", "math/bits.deBruijn32tab", "math/bits.deBruijn64tab", "hallmark/show.types"], apart := false, laid := [("math/bits.deBruijn32tab", laid_math_bits_deBruijn32tab), ("math/bits.deBruijn64tab", laid_math_bits_deBruijn64tab), ("internal/strconv.uint64pow10", laid_internal_strconv_uint64pow10), ("hallmark/kind.fields", laid_hallmark_kind_fields), ("hallmark/show.types", laid_hallmark_show_types), ("hallmark/show.steps", laid_hallmark_show_steps), ("hallmark/show.signs", laid_hallmark_show_signs)] }
def ShowProgsSaid : Prop := showProgsRow.holds Tryd.pinned (OpenSpec.ofChange showProgsSpec)

/-- ITS FALSE NEIGHBOUR: 'it returns false'. Refute it at one input. -/
def showProgsWrong : ChangeSpec := { name := "showProgs", fn := fun _ => fun
  | [d] => { results := [.lit (.bool false)], args := [d] }
  | _ => none }
def ShowProgsWrongFalsely : Prop := showProgsRow.holds Tryd.pinned (OpenSpec.ofChange showProgsWrong)

/- THE SECOND FORM. 'bulk': how many values and letters a reading holds, each counted each time it is reached (what is shared counts as often as it is met; a slice's spare places count too). A statement '..UptoSaid' is the law's where the arguments, and the package variables that the reading takes, are together of bulk at most 1048576: NARROWER than '..Said'. Prove '..Said' where nothing that the law and all that it calls make is longer than what came in: it says more and counts as full. Else prove '..UptoSaid'. A law counts once. -/
mutual
def uptoBulk {H : Type} : DataW H → Nat
  | .lit (.string bytes) => bytes.length + 1
  | .lit _ => 1
  | .nil => 1
  | .ptr d => uptoBulk d + 1
  | .slice elems spare => uptoBulkAll elems + uptoBulkAll spare + 1
  | .agg parts => uptoBulkAll parts + 1
  | .iface _ d => uptoBulk d + 1
  | .map entries => uptoBulkEntries entries + 1
  | .held _ => 1
def uptoBulkAll {H : Type} : List (DataW H) → Nat
  | [] => 0
  | d :: r => uptoBulk d + uptoBulkAll r
def uptoBulkEntries {H : Type} : List (Lit × DataW H) → Nat
  | [] => 0
  | x :: r => uptoBulkEntry x + uptoBulkEntries r
def uptoBulkEntry {H : Type} : Lit × DataW H → Nat
  | (.string bytes, d) => bytes.length + uptoBulk d + 1
  | (_, d) => uptoBulk d + 1
 end
def uptoSmall : (H : Type) → List (DataW H) → Bool := fun _ ds => decide (uptoBulkAll ds ≤ 1048576)
def OpenSpec.upto (s : _root_.Go.ChangeSpec) : _root_.Go.OpenSpec := { _root_.Go.OpenSpec.ofChange s with cond := some uptoSmall }

/-- 'hallmarklaw06.ShowOps', WHERE WHAT IT READS IS OF BULK AT MOST 1048576: true; the input reads as it did. -/
def showOpsUptoRow : OpenClaim := { program := "ytojmepkhbebllaadoor", sum := "03ebccafdbd77f3313cc598d937047ec2f02d0e97c52b7892a4e838868138b82", func := "hallmark/hallmarklaw06.ShowOps", spec := "showOps", inPlace := ["internal/abi.NoEscape", "internal/bytealg.MakeNoZero"], unfollowed := true, recurses := true, named := ["hallmark/show.steps", "hallmark/show.signs", "hallmark/kind.fields", "internal/strconv.uint64pow10", "math/bits.deBruijn32tab", "math/bits.deBruijn64tab"], apart := false, laid := [("math/bits.deBruijn32tab", laid_math_bits_deBruijn32tab), ("math/bits.deBruijn64tab", laid_math_bits_deBruijn64tab), ("internal/strconv.uint64pow10", laid_internal_strconv_uint64pow10), ("hallmark/kind.fields", laid_hallmark_kind_fields), ("hallmark/show.steps", laid_hallmark_show_steps), ("hallmark/show.signs", laid_hallmark_show_signs)], narrowed := true }
def ShowOpsUptoSaid : Prop := showOpsUptoRow.holds Tryd.pinned (OpenSpec.upto showOpsSpec)

/-- 'hallmarklaw06.ShowTypes', WHERE WHAT IT READS IS OF BULK AT MOST 1048576: true; the input reads as it did. -/
def showTypesUptoRow : OpenClaim := { program := "ytojmepkhbebllaadoor", sum := "03ebccafdbd77f3313cc598d937047ec2f02d0e97c52b7892a4e838868138b82", func := "hallmark/hallmarklaw06.ShowTypes", spec := "showTypes", inPlace := ["internal/abi.NoEscape", "internal/bytealg.MakeNoZero"], unfollowed := true, recurses := true, named := ["hallmark/show.types", "internal/strconv.uint64pow10", "math/bits.deBruijn32tab", "math/bits.deBruijn64tab", "hallmark/show.steps", "hallmark/show.signs", "hallmark/kind.fields"], apart := false, laid := [("math/bits.deBruijn32tab", laid_math_bits_deBruijn32tab), ("math/bits.deBruijn64tab", laid_math_bits_deBruijn64tab), ("internal/strconv.uint64pow10", laid_internal_strconv_uint64pow10), ("hallmark/kind.fields", laid_hallmark_kind_fields), ("hallmark/show.types", laid_hallmark_show_types), ("hallmark/show.steps", laid_hallmark_show_steps), ("hallmark/show.signs", laid_hallmark_show_signs)], narrowed := true }
def ShowTypesUptoSaid : Prop := showTypesUptoRow.holds Tryd.pinned (OpenSpec.upto showTypesSpec)

/-- 'hallmarklaw06.ShowApart', WHERE WHAT IT READS IS OF BULK AT MOST 1048576: true; the input reads as it did. -/
def showApartUptoRow : OpenClaim := { program := "ytojmepkhbebllaadoor", sum := "03ebccafdbd77f3313cc598d937047ec2f02d0e97c52b7892a4e838868138b82", func := "hallmark/hallmarklaw06.ShowApart", spec := "showApart", inPlace := ["internal/abi.NoEscape", "internal/bytealg.MakeNoZero"], unfollowed := true, recurses := true, named := ["hallmark/show.steps", "hallmark/show.signs", "hallmark/kind.fields", "internal/strconv.uint64pow10", "math/bits.deBruijn32tab", "math/bits.deBruijn64tab", "hallmark/show.types"], apart := false, laid := [("math/bits.deBruijn32tab", laid_math_bits_deBruijn32tab), ("math/bits.deBruijn64tab", laid_math_bits_deBruijn64tab), ("internal/strconv.uint64pow10", laid_internal_strconv_uint64pow10), ("hallmark/kind.fields", laid_hallmark_kind_fields), ("hallmark/show.types", laid_hallmark_show_types), ("hallmark/show.steps", laid_hallmark_show_steps), ("hallmark/show.signs", laid_hallmark_show_signs)], narrowed := true }
def ShowApartUptoSaid : Prop := showApartUptoRow.holds Tryd.pinned (OpenSpec.upto showApartSpec)

/-- 'hallmarklaw06.ShowProgs', WHERE WHAT IT READS IS OF BULK AT MOST 1048576: true; the input reads as it did. -/
def showProgsUptoRow : OpenClaim := { program := "ytojmepkhbebllaadoor", sum := "03ebccafdbd77f3313cc598d937047ec2f02d0e97c52b7892a4e838868138b82", func := "hallmark/hallmarklaw06.ShowProgs", spec := "showProgs", inPlace := ["internal/abi.NoEscape", "internal/bytealg.MakeNoZero"], unfollowed := true, recurses := true, named := ["hallmark/show.steps", "hallmark/show.signs", "hallmark/kind.fields", "internal/strconv.uint64pow10", "math/bits.deBruijn32tab", "math/bits.deBruijn64tab", "hallmark/show.types"], apart := false, laid := [("math/bits.deBruijn32tab", laid_math_bits_deBruijn32tab), ("math/bits.deBruijn64tab", laid_math_bits_deBruijn64tab), ("internal/strconv.uint64pow10", laid_internal_strconv_uint64pow10), ("hallmark/kind.fields", laid_hallmark_kind_fields), ("hallmark/show.types", laid_hallmark_show_types), ("hallmark/show.steps", laid_hallmark_show_steps), ("hallmark/show.signs", laid_hallmark_show_signs)], narrowed := true }
def ShowProgsUptoSaid : Prop := showProgsUptoRow.holds Tryd.pinned (OpenSpec.upto showProgsSpec)

end Rows
end Go.Proofs.YtojmepkhbebllaaDoor
