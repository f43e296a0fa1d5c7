/-
  No cell of these rows narrows 'for every input' (looked for: loops, veiled, ifaces, maps, wideKeys, modest, calm, conditions, laid).
  DERIVED. THE GIVEN ROWS OF THIS SEAT. 5 by the template 'for every input the law returns true; each argument reads behind the call as it read before'; 0 by the template 'total and deterministic' (their statements: YtfkicdelkjjliaaTotals.lean).
  GIVEN WITH THE SEED: the statements are not yours to turn. If you find one false, say at which input.
  Laid BY PROGRAM, IN A SANDBOX (cutbox-rows.mjs): the forced cells as the released guide's own fill.sh prints them over the translation fbc8cc221e80fe00… (all of the seat's roots in one cut). By AI agents, Wed Nov 11 2026. No macro, syntax, notation, axiom, sorry.
-/
import Derived.Test.YtfkicdelkjjliaaChecked
import GoSem.Claim
import GoSem.ClaimJoined
import GoSem.ClaimMapViews
import Derived.JoinedTies
import Derived.KernelRfl
namespace Go.Proofs.Ytfkicdelkjjliaa
/- THE CELL 'sum', in the pinned program and in every row, IS THE sha256 OF THE DUMP (.gsa) THAT YtfkicdelkjjliaaProg.lean LOADS. Nothing in Lean hashes anything: it is a label: what it is worth is what the hold of that sum in a sandbox is worth. -/
noncomputable def Try.pinned : Pinned := { name := "ytfkicdelkjjliaa", sum := "fbc8cc221e80fe003e87982dea4b02105b7bf2205970fe417fd301ab2f80ef19", checked := Try.checked }
namespace Rows
def none {H : Type} : Left H := { results := [], args := [] }

/-- 'hallmarklaw07.CfgOnce': WHATEVER THE INPUT: true; the input reads as it did. -/
def cfgOnceSpec : ChangeSpec := { name := "cfgOnce", fn := fun _ => fun
  | [d] => { results := [.lit (.bool true)], args := [d] }
  | _ => none }
def cfgOnceRow : OpenClaim := { program := "ytfkicdelkjjliaa", sum := "fbc8cc221e80fe003e87982dea4b02105b7bf2205970fe417fd301ab2f80ef19", func := "hallmark/hallmarklaw07.CfgOnce", spec := "cfgOnce", unfollowed := true, recurses := true, apart := false }
def CfgOnceSaid : Prop := cfgOnceRow.holds Try.pinned (OpenSpec.ofChange cfgOnceSpec)

/-- ITS FALSE NEIGHBOUR: 'it returns false'. Refute it at one input. -/
def cfgOnceWrong : ChangeSpec := { name := "cfgOnce", fn := fun _ => fun
  | [d] => { results := [.lit (.bool false)], args := [d] }
  | _ => none }
def CfgOnceWrongFalsely : Prop := cfgOnceRow.holds Try.pinned (OpenSpec.ofChange cfgOnceWrong)

/-- 'hallmarklaw07.CfgForward': WHATEVER THE INPUT: true; the input reads as it did. -/
def cfgForwardSpec : ChangeSpec := { name := "cfgForward", fn := fun _ => fun
  | [d] => { results := [.lit (.bool true)], args := [d] }
  | _ => none }
def cfgForwardRow : OpenClaim := { program := "ytfkicdelkjjliaa", sum := "fbc8cc221e80fe003e87982dea4b02105b7bf2205970fe417fd301ab2f80ef19", func := "hallmark/hallmarklaw07.CfgForward", spec := "cfgForward", unfollowed := true, recurses := true, apart := false }
def CfgForwardSaid : Prop := cfgForwardRow.holds Try.pinned (OpenSpec.ofChange cfgForwardSpec)

/-- ITS FALSE NEIGHBOUR: 'it returns false'. Refute it at one input. -/
def cfgForwardWrong : ChangeSpec := { name := "cfgForward", fn := fun _ => fun
  | [d] => { results := [.lit (.bool false)], args := [d] }
  | _ => none }
def CfgForwardWrongFalsely : Prop := cfgForwardRow.holds Try.pinned (OpenSpec.ofChange cfgForwardWrong)

/-- 'hallmarklaw07.CfgOrder': WHATEVER THE INPUT: true; the input reads as it did. -/
def cfgOrderSpec : ChangeSpec := { name := "cfgOrder", fn := fun _ => fun
  | [d] => { results := [.lit (.bool true)], args := [d] }
  | _ => none }
def cfgOrderRow : OpenClaim := { program := "ytfkicdelkjjliaa", sum := "fbc8cc221e80fe003e87982dea4b02105b7bf2205970fe417fd301ab2f80ef19", func := "hallmark/hallmarklaw07.CfgOrder", spec := "cfgOrder", unfollowed := true, recurses := true, apart := false }
def CfgOrderSaid : Prop := cfgOrderRow.holds Try.pinned (OpenSpec.ofChange cfgOrderSpec)

/-- ITS FALSE NEIGHBOUR: 'it returns false'. Refute it at one input. -/
def cfgOrderWrong : ChangeSpec := { name := "cfgOrder", fn := fun _ => fun
  | [d] => { results := [.lit (.bool false)], args := [d] }
  | _ => none }
def CfgOrderWrongFalsely : Prop := cfgOrderRow.holds Try.pinned (OpenSpec.ofChange cfgOrderWrong)

/-- 'hallmarklaw07.CfgDeep': WHATEVER THE INPUT: true; the input reads as it did. -/
def cfgDeepSpec : ChangeSpec := { name := "cfgDeep", fn := fun _ => fun
  | [d] => { results := [.lit (.bool true)], args := [d] }
  | _ => none }
def cfgDeepRow : OpenClaim := { program := "ytfkicdelkjjliaa", sum := "fbc8cc221e80fe003e87982dea4b02105b7bf2205970fe417fd301ab2f80ef19", func := "hallmark/hallmarklaw07.CfgDeep", spec := "cfgDeep", unfollowed := true, recurses := true, apart := false }
def CfgDeepSaid : Prop := cfgDeepRow.holds Try.pinned (OpenSpec.ofChange cfgDeepSpec)

/-- ITS FALSE NEIGHBOUR: 'it returns false'. Refute it at one input. -/
def cfgDeepWrong : ChangeSpec := { name := "cfgDeep", fn := fun _ => fun
  | [d] => { results := [.lit (.bool false)], args := [d] }
  | _ => none }
def CfgDeepWrongFalsely : Prop := cfgDeepRow.holds Try.pinned (OpenSpec.ofChange cfgDeepWrong)

/-- 'hallmarklaw07.CfgNext': WHATEVER THE INPUT: true; the input reads as it did. -/
def cfgNextSpec : ChangeSpec := { name := "cfgNext", fn := fun _ => fun
  | [d] => { results := [.lit (.bool true)], args := [d] }
  | _ => none }
def cfgNextRow : OpenClaim := { program := "ytfkicdelkjjliaa", sum := "fbc8cc221e80fe003e87982dea4b02105b7bf2205970fe417fd301ab2f80ef19", func := "hallmark/hallmarklaw07.CfgNext", spec := "cfgNext", unfollowed := true, recurses := true, apart := false }
def CfgNextSaid : Prop := cfgNextRow.holds Try.pinned (OpenSpec.ofChange cfgNextSpec)

/-- ITS FALSE NEIGHBOUR: 'it returns false'. Refute it at one input. -/
def cfgNextWrong : ChangeSpec := { name := "cfgNext", fn := fun _ => fun
  | [d] => { results := [.lit (.bool false)], args := [d] }
  | _ => none }
def CfgNextWrongFalsely : Prop := cfgNextRow.holds Try.pinned (OpenSpec.ofChange cfgNextWrong)

/- THE SECOND FORM. 'bulk': how many values and letters a reading holds, each counted each time it is reached (what is shared counts as often as it is met; a slice's spare places count too). A statement '..UptoSaid' is the law's where the arguments, and the package variables that the reading takes, are together of bulk at most 1048576: NARROWER than '..Said'. Prove '..Said' where nothing that the law and all that it calls make is longer than what came in: it says more and counts as full. Else prove '..UptoSaid'. A law counts once. -/
mutual
def uptoBulk {H : Type} : DataW H → Nat
  | .lit (.string bytes) => bytes.length + 1
  | .lit _ => 1
  | .nil => 1
  | .ptr d => uptoBulk d + 1
  | .slice elems spare => uptoBulkAll elems + uptoBulkAll spare + 1
  | .agg parts => uptoBulkAll parts + 1
  | .iface _ d => uptoBulk d + 1
  | .map entries => uptoBulkEntries entries + 1
  | .held _ => 1
def uptoBulkAll {H : Type} : List (DataW H) → Nat
  | [] => 0
  | d :: r => uptoBulk d + uptoBulkAll r
def uptoBulkEntries {H : Type} : List (Lit × DataW H) → Nat
  | [] => 0
  | x :: r => uptoBulkEntry x + uptoBulkEntries r
def uptoBulkEntry {H : Type} : Lit × DataW H → Nat
  | (.string bytes, d) => bytes.length + uptoBulk d + 1
  | (_, d) => uptoBulk d + 1
 end
def uptoSmall : (H : Type) → List (DataW H) → Bool := fun _ ds => decide (uptoBulkAll ds ≤ 1048576)
def OpenSpec.upto (s : _root_.Go.ChangeSpec) : _root_.Go.OpenSpec := { _root_.Go.OpenSpec.ofChange s with cond := some uptoSmall }

/-- 'hallmarklaw07.CfgOnce', WHERE WHAT IT READS IS OF BULK AT MOST 1048576: true; the input reads as it did. -/
def cfgOnceUptoRow : OpenClaim := { program := "ytfkicdelkjjliaa", sum := "fbc8cc221e80fe003e87982dea4b02105b7bf2205970fe417fd301ab2f80ef19", func := "hallmark/hallmarklaw07.CfgOnce", spec := "cfgOnce", unfollowed := true, recurses := true, apart := false, narrowed := true }
def CfgOnceUptoSaid : Prop := cfgOnceUptoRow.holds Try.pinned (OpenSpec.upto cfgOnceSpec)

/-- 'hallmarklaw07.CfgForward', WHERE WHAT IT READS IS OF BULK AT MOST 1048576: true; the input reads as it did. -/
def cfgForwardUptoRow : OpenClaim := { program := "ytfkicdelkjjliaa", sum := "fbc8cc221e80fe003e87982dea4b02105b7bf2205970fe417fd301ab2f80ef19", func := "hallmark/hallmarklaw07.CfgForward", spec := "cfgForward", unfollowed := true, recurses := true, apart := false, narrowed := true }
def CfgForwardUptoSaid : Prop := cfgForwardUptoRow.holds Try.pinned (OpenSpec.upto cfgForwardSpec)

/-- 'hallmarklaw07.CfgOrder', WHERE WHAT IT READS IS OF BULK AT MOST 1048576: true; the input reads as it did. -/
def cfgOrderUptoRow : OpenClaim := { program := "ytfkicdelkjjliaa", sum := "fbc8cc221e80fe003e87982dea4b02105b7bf2205970fe417fd301ab2f80ef19", func := "hallmark/hallmarklaw07.CfgOrder", spec := "cfgOrder", unfollowed := true, recurses := true, apart := false, narrowed := true }
def CfgOrderUptoSaid : Prop := cfgOrderUptoRow.holds Try.pinned (OpenSpec.upto cfgOrderSpec)

/-- 'hallmarklaw07.CfgDeep', WHERE WHAT IT READS IS OF BULK AT MOST 1048576: true; the input reads as it did. -/
def cfgDeepUptoRow : OpenClaim := { program := "ytfkicdelkjjliaa", sum := "fbc8cc221e80fe003e87982dea4b02105b7bf2205970fe417fd301ab2f80ef19", func := "hallmark/hallmarklaw07.CfgDeep", spec := "cfgDeep", unfollowed := true, recurses := true, apart := false, narrowed := true }
def CfgDeepUptoSaid : Prop := cfgDeepUptoRow.holds Try.pinned (OpenSpec.upto cfgDeepSpec)

/-- 'hallmarklaw07.CfgNext', WHERE WHAT IT READS IS OF BULK AT MOST 1048576: true; the input reads as it did. -/
def cfgNextUptoRow : OpenClaim := { program := "ytfkicdelkjjliaa", sum := "fbc8cc221e80fe003e87982dea4b02105b7bf2205970fe417fd301ab2f80ef19", func := "hallmark/hallmarklaw07.CfgNext", spec := "cfgNext", unfollowed := true, recurses := true, apart := false, narrowed := true }
def CfgNextUptoSaid : Prop := cfgNextUptoRow.holds Try.pinned (OpenSpec.upto cfgNextSpec)

end Rows
end Go.Proofs.Ytfkicdelkjjliaa
