/-
  NARROWER THAN 'FOR EVERY INPUT', by the rows' own cells (each row's printed sentence says how): NodeNews: laid · NodeSames: laid · NodeReads: laid · NodeEquals: laid · NodeWiths: laid · NodeContents: laid.
  DERIVED. THE GIVEN ROWS OF THIS SEAT. 6 by the template 'for every input the law returns true; each argument reads behind the call as it read before'; 0 by the template 'total and deterministic' (their statements: YtaibdhmiglacdaaGreatDoorTotals.lean).
  GIVEN WITH THE SEED: the statements are not yours to turn. If you find one false, say at which input.
  Laid BY PROGRAM, IN A SANDBOX (cutbox-rows.mjs): the forced cells as the released guide's own fill.sh prints them over the translation f55f199aebce98fd… (all of the seat's roots in one cut). By AI agents, Wed Nov 11 2026. No macro, syntax, notation, axiom, sorry.
-/
import Derived.Test.YtaibdhmiglacdaaGreatDoorChecked
import GoSem.PinnedTables
import GoSem.Claim
import GoSem.ClaimJoined
import GoSem.ClaimMapViews
import Derived.JoinedTies
import Derived.KernelRfl
namespace Go.Proofs.YtaibdhmiglacdaaGreatDoor
/- THE CELL 'sum', in the pinned program and in every row, IS THE sha256 OF THE DUMP (.gsa) THAT YtaibdhmiglacdaaGreatDoorProg.lean LOADS. Nothing in Lean hashes anything: it is a label: what it is worth is what the hold of that sum in a sandbox is worth. -/
noncomputable def Tryz.pinned : Pinned := { name := "ytaibdhmiglacdaagreatdoor", sum := "f55f199aebce98fd8a6b84d40cb23c9352094dbfa6cce94baf672793716155c7", checked := Tryz.checked }
namespace Rows
def none {H : Type} : Left H := { results := [], args := [] }

/- WHAT THE LISTED PACKAGE-LEVEL VARIABLES READ AS WHEN THE CALL BEGINS. Each datum BY PROGRAM (the guide's laid-datum.mjs) off the statement by which the dump's own 'gosem.cut.vars' lays the variable. In a bare row this is a premise. The card (YtaibdhmiglacdaaGreatDoorCards.lean) ties it to the program's text. -/
def laid_unicode_utf8_acceptRanges {H : Type} : DataW H := .agg [.agg [.lit (.int .u8 128), .lit (.int .u8 191)], .agg [.lit (.int .u8 160), .lit (.int .u8 191)], .agg [.lit (.int .u8 128), .lit (.int .u8 159)], .agg [.lit (.int .u8 144), .lit (.int .u8 191)], .agg [.lit (.int .u8 128), .lit (.int .u8 143)], .agg [.lit (.int .u8 0), .lit (.int .u8 0)], .agg [.lit (.int .u8 0), .lit (.int .u8 0)], .agg [.lit (.int .u8 0), .lit (.int .u8 0)], .agg [.lit (.int .u8 0), .lit (.int .u8 0)], .agg [.lit (.int .u8 0), .lit (.int .u8 0)], .agg [.lit (.int .u8 0), .lit (.int .u8 0)], .agg [.lit (.int .u8 0), .lit (.int .u8 0)], .agg [.lit (.int .u8 0), .lit (.int .u8 0)], .agg [.lit (.int .u8 0), .lit (.int .u8 0)], .agg [.lit (.int .u8 0), .lit (.int .u8 0)], .agg [.lit (.int .u8 0), .lit (.int .u8 0)]]
/-- One of Go's own tables, pinned by name: the form's constant. -/
def laid_unicode_utf8_first : DataW Unit := Go.Pinned.utf8First

/-- 'imageeditorlaw31.NodeNews': WHATEVER THE INPUT: true; the input reads as it did. -/
def nodeNewsSpec : ChangeSpec := { name := "nodeNews", fn := fun _ => fun
  | [d1, d2, d3] => { results := [.lit (.bool true)], args := [d1, d2, d3] }
  | _ => none }
def nodeNewsRow : OpenClaim := { program := "ytaibdhmiglacdaagreatdoor", sum := "f55f199aebce98fd8a6b84d40cb23c9352094dbfa6cce94baf672793716155c7", func := "imageeditor/imageeditorlaw31.NodeNews", spec := "nodeNews", inPlace := ["internal/bytealg.IndexByteString", "internal/bytealg.CountString", "internal/bytealg.IndexString"], unfollowed := true, recurses := true, named := ["unicode/utf8.first", "unicode/utf8.acceptRanges", "internal/bytealg.MaxLen"], apart := false, laid := [("unicode/utf8.acceptRanges", laid_unicode_utf8_acceptRanges), ("unicode/utf8.first", laid_unicode_utf8_first)] }
def NodeNewsSaid : Prop := nodeNewsRow.holds Tryz.pinned (OpenSpec.ofChange nodeNewsSpec)

/-- ITS FALSE NEIGHBOUR: 'it returns false'. Refute it at one input. -/
def nodeNewsWrong : ChangeSpec := { name := "nodeNews", fn := fun _ => fun
  | [d1, d2, d3] => { results := [.lit (.bool false)], args := [d1, d2, d3] }
  | _ => none }
def NodeNewsWrongFalsely : Prop := nodeNewsRow.holds Tryz.pinned (OpenSpec.ofChange nodeNewsWrong)

/-- 'imageeditorlaw31.NodeSames': WHATEVER THE INPUT: true; the input reads as it did. -/
def nodeSamesSpec : ChangeSpec := { name := "nodeSames", fn := fun _ => fun
  | [d] => { results := [.lit (.bool true)], args := [d] }
  | _ => none }
def nodeSamesRow : OpenClaim := { program := "ytaibdhmiglacdaagreatdoor", sum := "f55f199aebce98fd8a6b84d40cb23c9352094dbfa6cce94baf672793716155c7", func := "imageeditor/imageeditorlaw31.NodeSames", spec := "nodeSames", inPlace := ["internal/bytealg.IndexByteString", "internal/bytealg.CountString", "internal/bytealg.IndexString"], unfollowed := true, recurses := true, named := ["unicode/utf8.first", "unicode/utf8.acceptRanges", "internal/bytealg.MaxLen"], apart := false, laid := [("unicode/utf8.acceptRanges", laid_unicode_utf8_acceptRanges), ("unicode/utf8.first", laid_unicode_utf8_first)] }
def NodeSamesSaid : Prop := nodeSamesRow.holds Tryz.pinned (OpenSpec.ofChange nodeSamesSpec)

/-- ITS FALSE NEIGHBOUR: 'it returns false'. Refute it at one input. -/
def nodeSamesWrong : ChangeSpec := { name := "nodeSames", fn := fun _ => fun
  | [d] => { results := [.lit (.bool false)], args := [d] }
  | _ => none }
def NodeSamesWrongFalsely : Prop := nodeSamesRow.holds Tryz.pinned (OpenSpec.ofChange nodeSamesWrong)

/-- 'imageeditorlaw31.NodeReads': WHATEVER THE INPUT: true; the input reads as it did. -/
def nodeReadsSpec : ChangeSpec := { name := "nodeReads", fn := fun _ => fun
  | [d] => { results := [.lit (.bool true)], args := [d] }
  | _ => none }
def nodeReadsRow : OpenClaim := { program := "ytaibdhmiglacdaagreatdoor", sum := "f55f199aebce98fd8a6b84d40cb23c9352094dbfa6cce94baf672793716155c7", func := "imageeditor/imageeditorlaw31.NodeReads", spec := "nodeReads", inPlace := ["internal/bytealg.IndexByteString", "internal/bytealg.CountString", "internal/bytealg.IndexString"], unfollowed := true, recurses := true, named := ["unicode/utf8.first", "unicode/utf8.acceptRanges", "internal/bytealg.MaxLen"], apart := false, laid := [("unicode/utf8.acceptRanges", laid_unicode_utf8_acceptRanges), ("unicode/utf8.first", laid_unicode_utf8_first)] }
def NodeReadsSaid : Prop := nodeReadsRow.holds Tryz.pinned (OpenSpec.ofChange nodeReadsSpec)

/-- ITS FALSE NEIGHBOUR: 'it returns false'. Refute it at one input. -/
def nodeReadsWrong : ChangeSpec := { name := "nodeReads", fn := fun _ => fun
  | [d] => { results := [.lit (.bool false)], args := [d] }
  | _ => none }
def NodeReadsWrongFalsely : Prop := nodeReadsRow.holds Tryz.pinned (OpenSpec.ofChange nodeReadsWrong)

/-- 'imageeditorlaw31.NodeEquals': WHATEVER THE INPUT: true; the input reads as it did. -/
def nodeEqualsSpec : ChangeSpec := { name := "nodeEquals", fn := fun _ => fun
  | [d1, d2, d3] => { results := [.lit (.bool true)], args := [d1, d2, d3] }
  | _ => none }
def nodeEqualsRow : OpenClaim := { program := "ytaibdhmiglacdaagreatdoor", sum := "f55f199aebce98fd8a6b84d40cb23c9352094dbfa6cce94baf672793716155c7", func := "imageeditor/imageeditorlaw31.NodeEquals", spec := "nodeEquals", inPlace := ["internal/bytealg.IndexByteString", "internal/bytealg.CountString", "internal/bytealg.IndexString"], unfollowed := true, recurses := true, named := ["unicode/utf8.first", "unicode/utf8.acceptRanges", "internal/bytealg.MaxLen"], apart := false, laid := [("unicode/utf8.acceptRanges", laid_unicode_utf8_acceptRanges), ("unicode/utf8.first", laid_unicode_utf8_first)] }
def NodeEqualsSaid : Prop := nodeEqualsRow.holds Tryz.pinned (OpenSpec.ofChange nodeEqualsSpec)

/-- ITS FALSE NEIGHBOUR: 'it returns false'. Refute it at one input. -/
def nodeEqualsWrong : ChangeSpec := { name := "nodeEquals", fn := fun _ => fun
  | [d1, d2, d3] => { results := [.lit (.bool false)], args := [d1, d2, d3] }
  | _ => none }
def NodeEqualsWrongFalsely : Prop := nodeEqualsRow.holds Tryz.pinned (OpenSpec.ofChange nodeEqualsWrong)

/-- 'imageeditorlaw31.NodeWiths': WHATEVER THE INPUT: true; the input reads as it did. -/
def nodeWithsSpec : ChangeSpec := { name := "nodeWiths", fn := fun _ => fun
  | [d] => { results := [.lit (.bool true)], args := [d] }
  | _ => none }
def nodeWithsRow : OpenClaim := { program := "ytaibdhmiglacdaagreatdoor", sum := "f55f199aebce98fd8a6b84d40cb23c9352094dbfa6cce94baf672793716155c7", func := "imageeditor/imageeditorlaw31.NodeWiths", spec := "nodeWiths", inPlace := ["internal/bytealg.IndexByteString", "internal/bytealg.CountString", "internal/bytealg.IndexString"], unfollowed := true, recurses := true, named := ["unicode/utf8.first", "unicode/utf8.acceptRanges", "internal/bytealg.MaxLen"], apart := false, laid := [("unicode/utf8.acceptRanges", laid_unicode_utf8_acceptRanges), ("unicode/utf8.first", laid_unicode_utf8_first)] }
def NodeWithsSaid : Prop := nodeWithsRow.holds Tryz.pinned (OpenSpec.ofChange nodeWithsSpec)

/-- ITS FALSE NEIGHBOUR: 'it returns false'. Refute it at one input. -/
def nodeWithsWrong : ChangeSpec := { name := "nodeWiths", fn := fun _ => fun
  | [d] => { results := [.lit (.bool false)], args := [d] }
  | _ => none }
def NodeWithsWrongFalsely : Prop := nodeWithsRow.holds Tryz.pinned (OpenSpec.ofChange nodeWithsWrong)

/-- 'imageeditorlaw31.NodeContents': WHATEVER THE INPUT: true; the input reads as it did. -/
def nodeContentsSpec : ChangeSpec := { name := "nodeContents", fn := fun _ => fun
  | [d1, d2, d3] => { results := [.lit (.bool true)], args := [d1, d2, d3] }
  | _ => none }
def nodeContentsRow : OpenClaim := { program := "ytaibdhmiglacdaagreatdoor", sum := "f55f199aebce98fd8a6b84d40cb23c9352094dbfa6cce94baf672793716155c7", func := "imageeditor/imageeditorlaw31.NodeContents", spec := "nodeContents", inPlace := ["internal/bytealg.IndexByteString", "internal/bytealg.CountString", "internal/bytealg.IndexString"], unfollowed := true, recurses := true, named := ["unicode/utf8.first", "unicode/utf8.acceptRanges", "internal/bytealg.MaxLen"], apart := false, laid := [("unicode/utf8.acceptRanges", laid_unicode_utf8_acceptRanges), ("unicode/utf8.first", laid_unicode_utf8_first)] }
def NodeContentsSaid : Prop := nodeContentsRow.holds Tryz.pinned (OpenSpec.ofChange nodeContentsSpec)

/-- ITS FALSE NEIGHBOUR: 'it returns false'. Refute it at one input. -/
def nodeContentsWrong : ChangeSpec := { name := "nodeContents", fn := fun _ => fun
  | [d1, d2, d3] => { results := [.lit (.bool false)], args := [d1, d2, d3] }
  | _ => none }
def NodeContentsWrongFalsely : Prop := nodeContentsRow.holds Tryz.pinned (OpenSpec.ofChange nodeContentsWrong)

/- THE SECOND FORM. 'bulk': how many values and letters a reading holds, each counted each time it is reached (what is shared counts as often as it is met; a slice's spare places count too). A statement '..UptoSaid' is the law's where the arguments, and the package variables that the reading takes, are together of bulk at most 1048576: NARROWER than '..Said'. Prove '..Said' where nothing that the law and all that it calls make is longer than what came in: it says more and counts as full. Else prove '..UptoSaid'. A law counts once. -/
mutual
def uptoBulk {H : Type} : DataW H → Nat
  | .lit (.string bytes) => bytes.length + 1
  | .lit _ => 1
  | .nil => 1
  | .ptr d => uptoBulk d + 1
  | .slice elems spare => uptoBulkAll elems + uptoBulkAll spare + 1
  | .agg parts => uptoBulkAll parts + 1
  | .iface _ d => uptoBulk d + 1
  | .map entries => uptoBulkEntries entries + 1
  | .held _ => 1
def uptoBulkAll {H : Type} : List (DataW H) → Nat
  | [] => 0
  | d :: r => uptoBulk d + uptoBulkAll r
def uptoBulkEntries {H : Type} : List (Lit × DataW H) → Nat
  | [] => 0
  | x :: r => uptoBulkEntry x + uptoBulkEntries r
def uptoBulkEntry {H : Type} : Lit × DataW H → Nat
  | (.string bytes, d) => bytes.length + uptoBulk d + 1
  | (_, d) => uptoBulk d + 1
 end
def uptoSmall : (H : Type) → List (DataW H) → Bool := fun _ ds => decide (uptoBulkAll ds ≤ 1048576)
def OpenSpec.upto (s : _root_.Go.ChangeSpec) : _root_.Go.OpenSpec := { _root_.Go.OpenSpec.ofChange s with cond := some uptoSmall }

/-- 'imageeditorlaw31.NodeNews', WHERE WHAT IT READS IS OF BULK AT MOST 1048576: true; the input reads as it did. -/
def nodeNewsUptoRow : OpenClaim := { program := "ytaibdhmiglacdaagreatdoor", sum := "f55f199aebce98fd8a6b84d40cb23c9352094dbfa6cce94baf672793716155c7", func := "imageeditor/imageeditorlaw31.NodeNews", spec := "nodeNews", inPlace := ["internal/bytealg.IndexByteString", "internal/bytealg.CountString", "internal/bytealg.IndexString"], unfollowed := true, recurses := true, named := ["unicode/utf8.first", "unicode/utf8.acceptRanges", "internal/bytealg.MaxLen"], apart := false, laid := [("unicode/utf8.acceptRanges", laid_unicode_utf8_acceptRanges), ("unicode/utf8.first", laid_unicode_utf8_first)], narrowed := true }
def NodeNewsUptoSaid : Prop := nodeNewsUptoRow.holds Tryz.pinned (OpenSpec.upto nodeNewsSpec)

/-- 'imageeditorlaw31.NodeSames', WHERE WHAT IT READS IS OF BULK AT MOST 1048576: true; the input reads as it did. -/
def nodeSamesUptoRow : OpenClaim := { program := "ytaibdhmiglacdaagreatdoor", sum := "f55f199aebce98fd8a6b84d40cb23c9352094dbfa6cce94baf672793716155c7", func := "imageeditor/imageeditorlaw31.NodeSames", spec := "nodeSames", inPlace := ["internal/bytealg.IndexByteString", "internal/bytealg.CountString", "internal/bytealg.IndexString"], unfollowed := true, recurses := true, named := ["unicode/utf8.first", "unicode/utf8.acceptRanges", "internal/bytealg.MaxLen"], apart := false, laid := [("unicode/utf8.acceptRanges", laid_unicode_utf8_acceptRanges), ("unicode/utf8.first", laid_unicode_utf8_first)], narrowed := true }
def NodeSamesUptoSaid : Prop := nodeSamesUptoRow.holds Tryz.pinned (OpenSpec.upto nodeSamesSpec)

/-- 'imageeditorlaw31.NodeReads', WHERE WHAT IT READS IS OF BULK AT MOST 1048576: true; the input reads as it did. -/
def nodeReadsUptoRow : OpenClaim := { program := "ytaibdhmiglacdaagreatdoor", sum := "f55f199aebce98fd8a6b84d40cb23c9352094dbfa6cce94baf672793716155c7", func := "imageeditor/imageeditorlaw31.NodeReads", spec := "nodeReads", inPlace := ["internal/bytealg.IndexByteString", "internal/bytealg.CountString", "internal/bytealg.IndexString"], unfollowed := true, recurses := true, named := ["unicode/utf8.first", "unicode/utf8.acceptRanges", "internal/bytealg.MaxLen"], apart := false, laid := [("unicode/utf8.acceptRanges", laid_unicode_utf8_acceptRanges), ("unicode/utf8.first", laid_unicode_utf8_first)], narrowed := true }
def NodeReadsUptoSaid : Prop := nodeReadsUptoRow.holds Tryz.pinned (OpenSpec.upto nodeReadsSpec)

/-- 'imageeditorlaw31.NodeEquals', WHERE WHAT IT READS IS OF BULK AT MOST 1048576: true; the input reads as it did. -/
def nodeEqualsUptoRow : OpenClaim := { program := "ytaibdhmiglacdaagreatdoor", sum := "f55f199aebce98fd8a6b84d40cb23c9352094dbfa6cce94baf672793716155c7", func := "imageeditor/imageeditorlaw31.NodeEquals", spec := "nodeEquals", inPlace := ["internal/bytealg.IndexByteString", "internal/bytealg.CountString", "internal/bytealg.IndexString"], unfollowed := true, recurses := true, named := ["unicode/utf8.first", "unicode/utf8.acceptRanges", "internal/bytealg.MaxLen"], apart := false, laid := [("unicode/utf8.acceptRanges", laid_unicode_utf8_acceptRanges), ("unicode/utf8.first", laid_unicode_utf8_first)], narrowed := true }
def NodeEqualsUptoSaid : Prop := nodeEqualsUptoRow.holds Tryz.pinned (OpenSpec.upto nodeEqualsSpec)

/-- 'imageeditorlaw31.NodeWiths', WHERE WHAT IT READS IS OF BULK AT MOST 1048576: true; the input reads as it did. -/
def nodeWithsUptoRow : OpenClaim := { program := "ytaibdhmiglacdaagreatdoor", sum := "f55f199aebce98fd8a6b84d40cb23c9352094dbfa6cce94baf672793716155c7", func := "imageeditor/imageeditorlaw31.NodeWiths", spec := "nodeWiths", inPlace := ["internal/bytealg.IndexByteString", "internal/bytealg.CountString", "internal/bytealg.IndexString"], unfollowed := true, recurses := true, named := ["unicode/utf8.first", "unicode/utf8.acceptRanges", "internal/bytealg.MaxLen"], apart := false, laid := [("unicode/utf8.acceptRanges", laid_unicode_utf8_acceptRanges), ("unicode/utf8.first", laid_unicode_utf8_first)], narrowed := true }
def NodeWithsUptoSaid : Prop := nodeWithsUptoRow.holds Tryz.pinned (OpenSpec.upto nodeWithsSpec)

/-- 'imageeditorlaw31.NodeContents', WHERE WHAT IT READS IS OF BULK AT MOST 1048576: true; the input reads as it did. -/
def nodeContentsUptoRow : OpenClaim := { program := "ytaibdhmiglacdaagreatdoor", sum := "f55f199aebce98fd8a6b84d40cb23c9352094dbfa6cce94baf672793716155c7", func := "imageeditor/imageeditorlaw31.NodeContents", spec := "nodeContents", inPlace := ["internal/bytealg.IndexByteString", "internal/bytealg.CountString", "internal/bytealg.IndexString"], unfollowed := true, recurses := true, named := ["unicode/utf8.first", "unicode/utf8.acceptRanges", "internal/bytealg.MaxLen"], apart := false, laid := [("unicode/utf8.acceptRanges", laid_unicode_utf8_acceptRanges), ("unicode/utf8.first", laid_unicode_utf8_first)], narrowed := true }
def NodeContentsUptoSaid : Prop := nodeContentsUptoRow.holds Tryz.pinned (OpenSpec.upto nodeContentsSpec)

end Rows
end Go.Proofs.YtaibdhmiglacdaaGreatDoor
