/-
  No cell of these rows narrows 'for every input' (looked for: loops, veiled, ifaces, maps, wideKeys, modest, calm, conditions, laid).
  DERIVED. THE GIVEN ROWS OF THIS SEAT. 6 by the template 'for every input the law returns true; each argument reads behind the call as it read before'; 0 by the template 'total and deterministic' (their statements: YtemclhndmcjmmaaTotals.lean).
  GIVEN WITH THE SEED: the statements are not yours to turn. If you find one false, say at which input.
  Laid BY PROGRAM, IN A SANDBOX (cutbox-rows.mjs): the forced cells as the released guide's own fill.sh prints them over the translation 697165516bbac325… (all of the seat's roots in one cut). By AI agents, Wed Nov 11 2026. No macro, syntax, notation, axiom, sorry.
-/
import Derived.Test.YtemclhndmcjmmaaChecked
import GoSem.Claim
import GoSem.ClaimJoined
import GoSem.ClaimMapViews
import Derived.JoinedTies
import Derived.KernelRfl
namespace Go.Proofs.Ytemclhndmcjmmaa
/- THE CELL 'sum', in the pinned program and in every row, IS THE sha256 OF THE DUMP (.gsa) THAT YtemclhndmcjmmaaProg.lean LOADS. Nothing in Lean hashes anything: it is a label: what it is worth is what the hold of that sum in a sandbox is worth. -/
noncomputable def Try.pinned : Pinned := { name := "ytemclhndmcjmmaa", sum := "697165516bbac3257f30ba0932c46b4875502ea9ece0eabf52e331ab64b7ce4b", checked := Try.checked }
namespace Rows
def none {H : Type} : Left H := { results := [], args := [] }

/-- 'hallmarklaw08.DomTree': WHATEVER THE INPUT: true; the input reads as it did. -/
def domTreeSpec : ChangeSpec := { name := "domTree", fn := fun _ => fun
  | [d] => { results := [.lit (.bool true)], args := [d] }
  | _ => none }
def domTreeRow : OpenClaim := { program := "ytemclhndmcjmmaa", sum := "697165516bbac3257f30ba0932c46b4875502ea9ece0eabf52e331ab64b7ce4b", func := "hallmark/hallmarklaw08.DomTree", spec := "domTree", unfollowed := true, recurses := true, apart := false }
def DomTreeSaid : Prop := domTreeRow.holds Try.pinned (OpenSpec.ofChange domTreeSpec)

/-- ITS FALSE NEIGHBOUR: 'it returns false'. Refute it at one input. -/
def domTreeWrong : ChangeSpec := { name := "domTree", fn := fun _ => fun
  | [d] => { results := [.lit (.bool false)], args := [d] }
  | _ => none }
def DomTreeWrongFalsely : Prop := domTreeRow.holds Try.pinned (OpenSpec.ofChange domTreeWrong)

/-- 'hallmarklaw08.DomLoops': WHATEVER THE INPUT: true; the input reads as it did. -/
def domLoopsSpec : ChangeSpec := { name := "domLoops", fn := fun _ => fun
  | [d] => { results := [.lit (.bool true)], args := [d] }
  | _ => none }
def domLoopsRow : OpenClaim := { program := "ytemclhndmcjmmaa", sum := "697165516bbac3257f30ba0932c46b4875502ea9ece0eabf52e331ab64b7ce4b", func := "hallmark/hallmarklaw08.DomLoops", spec := "domLoops", unfollowed := true, recurses := true, apart := false }
def DomLoopsSaid : Prop := domLoopsRow.holds Try.pinned (OpenSpec.ofChange domLoopsSpec)

/-- ITS FALSE NEIGHBOUR: 'it returns false'. Refute it at one input. -/
def domLoopsWrong : ChangeSpec := { name := "domLoops", fn := fun _ => fun
  | [d] => { results := [.lit (.bool false)], args := [d] }
  | _ => none }
def DomLoopsWrongFalsely : Prop := domLoopsRow.holds Try.pinned (OpenSpec.ofChange domLoopsWrong)

/-- 'hallmarklaw08.DomOver': WHATEVER THE INPUT: true; the input reads as it did. -/
def domOverSpec : ChangeSpec := { name := "domOver", fn := fun _ => fun
  | [d1, d2, d3] => { results := [.lit (.bool true)], args := [d1, d2, d3] }
  | _ => none }
def domOverRow : OpenClaim := { program := "ytemclhndmcjmmaa", sum := "697165516bbac3257f30ba0932c46b4875502ea9ece0eabf52e331ab64b7ce4b", func := "hallmark/hallmarklaw08.DomOver", spec := "domOver", unfollowed := true, recurses := true, apart := false }
def DomOverSaid : Prop := domOverRow.holds Try.pinned (OpenSpec.ofChange domOverSpec)

/-- ITS FALSE NEIGHBOUR: 'it returns false'. Refute it at one input. -/
def domOverWrong : ChangeSpec := { name := "domOver", fn := fun _ => fun
  | [d1, d2, d3] => { results := [.lit (.bool false)], args := [d1, d2, d3] }
  | _ => none }
def DomOverWrongFalsely : Prop := domOverRow.holds Try.pinned (OpenSpec.ofChange domOverWrong)

/-- 'hallmarklaw08.DomFirst': WHATEVER THE INPUT: true; the input reads as it did. -/
def domFirstSpec : ChangeSpec := { name := "domFirst", fn := fun _ => fun
  | [d] => { results := [.lit (.bool true)], args := [d] }
  | _ => none }
def domFirstRow : OpenClaim := { program := "ytemclhndmcjmmaa", sum := "697165516bbac3257f30ba0932c46b4875502ea9ece0eabf52e331ab64b7ce4b", func := "hallmark/hallmarklaw08.DomFirst", spec := "domFirst", unfollowed := true, recurses := true, apart := false }
def DomFirstSaid : Prop := domFirstRow.holds Try.pinned (OpenSpec.ofChange domFirstSpec)

/-- ITS FALSE NEIGHBOUR: 'it returns false'. Refute it at one input. -/
def domFirstWrong : ChangeSpec := { name := "domFirst", fn := fun _ => fun
  | [d] => { results := [.lit (.bool false)], args := [d] }
  | _ => none }
def DomFirstWrongFalsely : Prop := domFirstRow.holds Try.pinned (OpenSpec.ofChange domFirstWrong)

/-- 'hallmarklaw08.DomTame': WHATEVER THE INPUT: true; the input reads as it did. -/
def domTameSpec : ChangeSpec := { name := "domTame", fn := fun _ => fun
  | [d] => { results := [.lit (.bool true)], args := [d] }
  | _ => none }
def domTameRow : OpenClaim := { program := "ytemclhndmcjmmaa", sum := "697165516bbac3257f30ba0932c46b4875502ea9ece0eabf52e331ab64b7ce4b", func := "hallmark/hallmarklaw08.DomTame", spec := "domTame", unfollowed := true, recurses := true, apart := false }
def DomTameSaid : Prop := domTameRow.holds Try.pinned (OpenSpec.ofChange domTameSpec)

/-- ITS FALSE NEIGHBOUR: 'it returns false'. Refute it at one input. -/
def domTameWrong : ChangeSpec := { name := "domTame", fn := fun _ => fun
  | [d] => { results := [.lit (.bool false)], args := [d] }
  | _ => none }
def DomTameWrongFalsely : Prop := domTameRow.holds Try.pinned (OpenSpec.ofChange domTameWrong)

/-- 'hallmarklaw08.DomEdges': WHATEVER THE INPUT: true; the input reads as it did. -/
def domEdgesSpec : ChangeSpec := { name := "domEdges", fn := fun _ => fun
  | [d] => { results := [.lit (.bool true)], args := [d] }
  | _ => none }
def domEdgesRow : OpenClaim := { program := "ytemclhndmcjmmaa", sum := "697165516bbac3257f30ba0932c46b4875502ea9ece0eabf52e331ab64b7ce4b", func := "hallmark/hallmarklaw08.DomEdges", spec := "domEdges", unfollowed := true, recurses := true, apart := false }
def DomEdgesSaid : Prop := domEdgesRow.holds Try.pinned (OpenSpec.ofChange domEdgesSpec)

/-- ITS FALSE NEIGHBOUR: 'it returns false'. Refute it at one input. -/
def domEdgesWrong : ChangeSpec := { name := "domEdges", fn := fun _ => fun
  | [d] => { results := [.lit (.bool false)], args := [d] }
  | _ => none }
def DomEdgesWrongFalsely : Prop := domEdgesRow.holds Try.pinned (OpenSpec.ofChange domEdgesWrong)

/- THE SECOND FORM. 'bulk': how many values and letters a reading holds, each counted each time it is reached (what is shared counts as often as it is met; a slice's spare places count too). A statement '..UptoSaid' is the law's where the arguments, and the package variables that the reading takes, are together of bulk at most 1048576: NARROWER than '..Said'. Prove '..Said' where nothing that the law and all that it calls make is longer than what came in: it says more and counts as full. Else prove '..UptoSaid'. A law counts once. -/
mutual
def uptoBulk {H : Type} : DataW H → Nat
  | .lit (.string bytes) => bytes.length + 1
  | .lit _ => 1
  | .nil => 1
  | .ptr d => uptoBulk d + 1
  | .slice elems spare => uptoBulkAll elems + uptoBulkAll spare + 1
  | .agg parts => uptoBulkAll parts + 1
  | .iface _ d => uptoBulk d + 1
  | .map entries => uptoBulkEntries entries + 1
  | .held _ => 1
def uptoBulkAll {H : Type} : List (DataW H) → Nat
  | [] => 0
  | d :: r => uptoBulk d + uptoBulkAll r
def uptoBulkEntries {H : Type} : List (Lit × DataW H) → Nat
  | [] => 0
  | x :: r => uptoBulkEntry x + uptoBulkEntries r
def uptoBulkEntry {H : Type} : Lit × DataW H → Nat
  | (.string bytes, d) => bytes.length + uptoBulk d + 1
  | (_, d) => uptoBulk d + 1
 end
def uptoSmall : (H : Type) → List (DataW H) → Bool := fun _ ds => decide (uptoBulkAll ds ≤ 1048576)
def OpenSpec.upto (s : _root_.Go.ChangeSpec) : _root_.Go.OpenSpec := { _root_.Go.OpenSpec.ofChange s with cond := some uptoSmall }

/-- 'hallmarklaw08.DomTree', WHERE WHAT IT READS IS OF BULK AT MOST 1048576: true; the input reads as it did. -/
def domTreeUptoRow : OpenClaim := { program := "ytemclhndmcjmmaa", sum := "697165516bbac3257f30ba0932c46b4875502ea9ece0eabf52e331ab64b7ce4b", func := "hallmark/hallmarklaw08.DomTree", spec := "domTree", unfollowed := true, recurses := true, apart := false, narrowed := true }
def DomTreeUptoSaid : Prop := domTreeUptoRow.holds Try.pinned (OpenSpec.upto domTreeSpec)

/-- 'hallmarklaw08.DomLoops', WHERE WHAT IT READS IS OF BULK AT MOST 1048576: true; the input reads as it did. -/
def domLoopsUptoRow : OpenClaim := { program := "ytemclhndmcjmmaa", sum := "697165516bbac3257f30ba0932c46b4875502ea9ece0eabf52e331ab64b7ce4b", func := "hallmark/hallmarklaw08.DomLoops", spec := "domLoops", unfollowed := true, recurses := true, apart := false, narrowed := true }
def DomLoopsUptoSaid : Prop := domLoopsUptoRow.holds Try.pinned (OpenSpec.upto domLoopsSpec)

/-- 'hallmarklaw08.DomOver', WHERE WHAT IT READS IS OF BULK AT MOST 1048576: true; the input reads as it did. -/
def domOverUptoRow : OpenClaim := { program := "ytemclhndmcjmmaa", sum := "697165516bbac3257f30ba0932c46b4875502ea9ece0eabf52e331ab64b7ce4b", func := "hallmark/hallmarklaw08.DomOver", spec := "domOver", unfollowed := true, recurses := true, apart := false, narrowed := true }
def DomOverUptoSaid : Prop := domOverUptoRow.holds Try.pinned (OpenSpec.upto domOverSpec)

/-- 'hallmarklaw08.DomFirst', WHERE WHAT IT READS IS OF BULK AT MOST 1048576: true; the input reads as it did. -/
def domFirstUptoRow : OpenClaim := { program := "ytemclhndmcjmmaa", sum := "697165516bbac3257f30ba0932c46b4875502ea9ece0eabf52e331ab64b7ce4b", func := "hallmark/hallmarklaw08.DomFirst", spec := "domFirst", unfollowed := true, recurses := true, apart := false, narrowed := true }
def DomFirstUptoSaid : Prop := domFirstUptoRow.holds Try.pinned (OpenSpec.upto domFirstSpec)

/-- 'hallmarklaw08.DomTame', WHERE WHAT IT READS IS OF BULK AT MOST 1048576: true; the input reads as it did. -/
def domTameUptoRow : OpenClaim := { program := "ytemclhndmcjmmaa", sum := "697165516bbac3257f30ba0932c46b4875502ea9ece0eabf52e331ab64b7ce4b", func := "hallmark/hallmarklaw08.DomTame", spec := "domTame", unfollowed := true, recurses := true, apart := false, narrowed := true }
def DomTameUptoSaid : Prop := domTameUptoRow.holds Try.pinned (OpenSpec.upto domTameSpec)

/-- 'hallmarklaw08.DomEdges', WHERE WHAT IT READS IS OF BULK AT MOST 1048576: true; the input reads as it did. -/
def domEdgesUptoRow : OpenClaim := { program := "ytemclhndmcjmmaa", sum := "697165516bbac3257f30ba0932c46b4875502ea9ece0eabf52e331ab64b7ce4b", func := "hallmark/hallmarklaw08.DomEdges", spec := "domEdges", unfollowed := true, recurses := true, apart := false, narrowed := true }
def DomEdgesUptoSaid : Prop := domEdgesUptoRow.holds Try.pinned (OpenSpec.upto domEdgesSpec)

end Rows
end Go.Proofs.Ytemclhndmcjmmaa
