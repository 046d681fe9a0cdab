/-
  NARROWER THAN 'FOR EVERY INPUT', by the rows' own cells (each row's printed sentence says how): WithinBelow: laid · WithinLies: laid · WithinBoth: laid · WithinMore: laid · WithinChecks: laid.
  DERIVED. THE GIVEN ROWS OF THIS SEAT. 5 by the template 'for every input the law returns true; each argument reads behind the call as it read before'; 0 by the template 'total and deterministic' (their statements: YtgnlcpoeepfdoaaGreatDoorTotals.lean).
  GIVEN WITH THE SEED: the statements are not yours to turn. If you find one false, say at which input.
  Laid BY PROGRAM, IN A SANDBOX (cutbox-rows.mjs): the forced cells as the released guide's own fill.sh prints them over the translation e4ad36c9e920ab45… (all of the seat's roots in one cut). By AI agents, Wed Nov 11 2026. No macro, syntax, notation, axiom, sorry.
-/
import Derived.Test.YtgnlcpoeepfdoaaGreatDoorChecked
import GoSem.PinnedTables
import GoSem.Claim
import GoSem.ClaimJoined
import GoSem.ClaimMapViews
import Derived.JoinedTies
import Derived.KernelRfl
namespace Go.Proofs.YtgnlcpoeepfdoaaGreatDoor
/- THE CELL 'sum', in the pinned program and in every row, IS THE sha256 OF THE DUMP (.gsa) THAT YtgnlcpoeepfdoaaGreatDoorProg.lean LOADS. Nothing in Lean hashes anything: it is a label: what it is worth is what the hold of that sum in a sandbox is worth. -/
noncomputable def Tryz.pinned : Pinned := { name := "ytgnlcpoeepfdoaagreatdoor", sum := "e4ad36c9e920ab456eb192ee5c5db55e46c4695b3fa4edb1d050b74f88179b20", checked := Tryz.checked }
namespace Rows
def none {H : Type} : Left H := { results := [], args := [] }

/- WHAT THE LISTED PACKAGE-LEVEL VARIABLES READ AS WHEN THE CALL BEGINS. Each datum BY PROGRAM (the guide's laid-datum.mjs) off the statement by which the dump's own 'gosem.cut.vars' lays the variable. In a bare row this is a premise. The card (YtgnlcpoeepfdoaaGreatDoorCards.lean) ties it to the program's text. -/
def laid_unicode_utf8_acceptRanges {H : Type} : DataW H := .agg [.agg [.lit (.int .u8 128), .lit (.int .u8 191)], .agg [.lit (.int .u8 160), .lit (.int .u8 191)], .agg [.lit (.int .u8 128), .lit (.int .u8 159)], .agg [.lit (.int .u8 144), .lit (.int .u8 191)], .agg [.lit (.int .u8 128), .lit (.int .u8 143)], .agg [.lit (.int .u8 0), .lit (.int .u8 0)], .agg [.lit (.int .u8 0), .lit (.int .u8 0)], .agg [.lit (.int .u8 0), .lit (.int .u8 0)], .agg [.lit (.int .u8 0), .lit (.int .u8 0)], .agg [.lit (.int .u8 0), .lit (.int .u8 0)], .agg [.lit (.int .u8 0), .lit (.int .u8 0)], .agg [.lit (.int .u8 0), .lit (.int .u8 0)], .agg [.lit (.int .u8 0), .lit (.int .u8 0)], .agg [.lit (.int .u8 0), .lit (.int .u8 0)], .agg [.lit (.int .u8 0), .lit (.int .u8 0)], .agg [.lit (.int .u8 0), .lit (.int .u8 0)]]
/-- One of Go's own tables, pinned by name: the form's constant. -/
def laid_unicode_utf8_first : DataW Unit := Go.Pinned.utf8First

/-- 'chancerylaw14.WithinBelow': WHATEVER THE INPUT: true; the input reads as it did. -/
def withinBelowSpec : ChangeSpec := { name := "withinBelow", fn := fun _ => fun
  | [d1, d2] => { results := [.lit (.bool true)], args := [d1, d2] }
  | _ => none }
def withinBelowRow : OpenClaim := { program := "ytgnlcpoeepfdoaagreatdoor", sum := "e4ad36c9e920ab456eb192ee5c5db55e46c4695b3fa4edb1d050b74f88179b20", func := "chancery/chancerylaw14.WithinBelow", spec := "withinBelow", inPlace := ["internal/bytealg.IndexByteString", "internal/bytealg.IndexString", "internal/abi.NoEscape", "internal/bytealg.MakeNoZero"], unfollowed := true, recurses := true, named := ["internal/bytealg.MaxLen", "unicode/utf8.first", "unicode/utf8.acceptRanges"], apart := false, laid := [("unicode/utf8.acceptRanges", laid_unicode_utf8_acceptRanges), ("unicode/utf8.first", laid_unicode_utf8_first)] }
def WithinBelowSaid : Prop := withinBelowRow.holds Tryz.pinned (OpenSpec.ofChange withinBelowSpec)

/-- ITS FALSE NEIGHBOUR: 'it returns false'. Refute it at one input. -/
def withinBelowWrong : ChangeSpec := { name := "withinBelow", fn := fun _ => fun
  | [d1, d2] => { results := [.lit (.bool false)], args := [d1, d2] }
  | _ => none }
def WithinBelowWrongFalsely : Prop := withinBelowRow.holds Tryz.pinned (OpenSpec.ofChange withinBelowWrong)

/-- 'chancerylaw14.WithinLies': WHATEVER THE INPUT: true; the input reads as it did. -/
def withinLiesSpec : ChangeSpec := { name := "withinLies", fn := fun _ => fun
  | [d1, d2] => { results := [.lit (.bool true)], args := [d1, d2] }
  | _ => none }
def withinLiesRow : OpenClaim := { program := "ytgnlcpoeepfdoaagreatdoor", sum := "e4ad36c9e920ab456eb192ee5c5db55e46c4695b3fa4edb1d050b74f88179b20", func := "chancery/chancerylaw14.WithinLies", spec := "withinLies", inPlace := ["internal/bytealg.IndexByteString", "internal/bytealg.IndexString", "internal/abi.NoEscape", "internal/bytealg.MakeNoZero"], unfollowed := true, recurses := true, named := ["internal/bytealg.MaxLen", "unicode/utf8.first", "unicode/utf8.acceptRanges"], apart := false, laid := [("unicode/utf8.acceptRanges", laid_unicode_utf8_acceptRanges), ("unicode/utf8.first", laid_unicode_utf8_first)] }
def WithinLiesSaid : Prop := withinLiesRow.holds Tryz.pinned (OpenSpec.ofChange withinLiesSpec)

/-- ITS FALSE NEIGHBOUR: 'it returns false'. Refute it at one input. -/
def withinLiesWrong : ChangeSpec := { name := "withinLies", fn := fun _ => fun
  | [d1, d2] => { results := [.lit (.bool false)], args := [d1, d2] }
  | _ => none }
def WithinLiesWrongFalsely : Prop := withinLiesRow.holds Tryz.pinned (OpenSpec.ofChange withinLiesWrong)

/-- 'chancerylaw14.WithinBoth': WHATEVER THE INPUT: true; the input reads as it did. -/
def withinBothSpec : ChangeSpec := { name := "withinBoth", fn := fun _ => fun
  | [d1, d2, d3] => { results := [.lit (.bool true)], args := [d1, d2, d3] }
  | _ => none }
def withinBothRow : OpenClaim := { program := "ytgnlcpoeepfdoaagreatdoor", sum := "e4ad36c9e920ab456eb192ee5c5db55e46c4695b3fa4edb1d050b74f88179b20", func := "chancery/chancerylaw14.WithinBoth", spec := "withinBoth", inPlace := ["internal/bytealg.IndexByteString", "internal/bytealg.IndexString", "internal/abi.NoEscape", "internal/bytealg.MakeNoZero"], unfollowed := true, recurses := true, named := ["internal/bytealg.MaxLen", "unicode/utf8.first", "unicode/utf8.acceptRanges"], apart := false, laid := [("unicode/utf8.acceptRanges", laid_unicode_utf8_acceptRanges), ("unicode/utf8.first", laid_unicode_utf8_first)] }
def WithinBothSaid : Prop := withinBothRow.holds Tryz.pinned (OpenSpec.ofChange withinBothSpec)

/-- ITS FALSE NEIGHBOUR: 'it returns false'. Refute it at one input. -/
def withinBothWrong : ChangeSpec := { name := "withinBoth", fn := fun _ => fun
  | [d1, d2, d3] => { results := [.lit (.bool false)], args := [d1, d2, d3] }
  | _ => none }
def WithinBothWrongFalsely : Prop := withinBothRow.holds Tryz.pinned (OpenSpec.ofChange withinBothWrong)

/-- 'chancerylaw14.WithinMore': WHATEVER THE INPUT: true; the input reads as it did. -/
def withinMoreSpec : ChangeSpec := { name := "withinMore", fn := fun _ => fun
  | [d1, d2, d3, d4] => { results := [.lit (.bool true)], args := [d1, d2, d3, d4] }
  | _ => none }
def withinMoreRow : OpenClaim := { program := "ytgnlcpoeepfdoaagreatdoor", sum := "e4ad36c9e920ab456eb192ee5c5db55e46c4695b3fa4edb1d050b74f88179b20", func := "chancery/chancerylaw14.WithinMore", spec := "withinMore", inPlace := ["internal/bytealg.IndexByteString", "internal/bytealg.IndexString", "internal/abi.NoEscape", "internal/bytealg.MakeNoZero"], unfollowed := true, recurses := true, named := ["internal/bytealg.MaxLen", "unicode/utf8.first", "unicode/utf8.acceptRanges"], apart := false, laid := [("unicode/utf8.acceptRanges", laid_unicode_utf8_acceptRanges), ("unicode/utf8.first", laid_unicode_utf8_first)] }
def WithinMoreSaid : Prop := withinMoreRow.holds Tryz.pinned (OpenSpec.ofChange withinMoreSpec)

/-- ITS FALSE NEIGHBOUR: 'it returns false'. Refute it at one input. -/
def withinMoreWrong : ChangeSpec := { name := "withinMore", fn := fun _ => fun
  | [d1, d2, d3, d4] => { results := [.lit (.bool false)], args := [d1, d2, d3, d4] }
  | _ => none }
def WithinMoreWrongFalsely : Prop := withinMoreRow.holds Tryz.pinned (OpenSpec.ofChange withinMoreWrong)

/-- 'chancerylaw14.WithinChecks': WHATEVER THE INPUT: true; the input reads as it did. -/
def withinChecksSpec : ChangeSpec := { name := "withinChecks", fn := fun _ => fun
  | [d1, d2, d3] => { results := [.lit (.bool true)], args := [d1, d2, d3] }
  | _ => none }
def withinChecksRow : OpenClaim := { program := "ytgnlcpoeepfdoaagreatdoor", sum := "e4ad36c9e920ab456eb192ee5c5db55e46c4695b3fa4edb1d050b74f88179b20", func := "chancery/chancerylaw14.WithinChecks", spec := "withinChecks", inPlace := ["internal/bytealg.IndexByteString", "internal/bytealg.IndexString", "internal/abi.NoEscape", "internal/bytealg.MakeNoZero"], unfollowed := true, recurses := true, named := ["internal/bytealg.MaxLen", "unicode/utf8.first", "unicode/utf8.acceptRanges"], apart := false, laid := [("unicode/utf8.acceptRanges", laid_unicode_utf8_acceptRanges), ("unicode/utf8.first", laid_unicode_utf8_first)] }
def WithinChecksSaid : Prop := withinChecksRow.holds Tryz.pinned (OpenSpec.ofChange withinChecksSpec)

/-- ITS FALSE NEIGHBOUR: 'it returns false'. Refute it at one input. -/
def withinChecksWrong : ChangeSpec := { name := "withinChecks", fn := fun _ => fun
  | [d1, d2, d3] => { results := [.lit (.bool false)], args := [d1, d2, d3] }
  | _ => none }
def WithinChecksWrongFalsely : Prop := withinChecksRow.holds Tryz.pinned (OpenSpec.ofChange withinChecksWrong)

/- THE SECOND FORM. 'bulk': how many values and letters a reading holds, each counted each time it is reached (what is shared counts as often as it is met; a slice's spare places count too). A statement '..UptoSaid' is the law's where the arguments, and the package variables that the reading takes, are together of bulk at most 1048576: NARROWER than '..Said'. Prove '..Said' where nothing that the law and all that it calls make is longer than what came in: it says more and counts as full. Else prove '..UptoSaid'. A law counts once. -/
mutual
def uptoBulk {H : Type} : DataW H → Nat
  | .lit (.string bytes) => bytes.length + 1
  | .lit _ => 1
  | .nil => 1
  | .ptr d => uptoBulk d + 1
  | .slice elems spare => uptoBulkAll elems + uptoBulkAll spare + 1
  | .agg parts => uptoBulkAll parts + 1
  | .iface _ d => uptoBulk d + 1
  | .map entries => uptoBulkEntries entries + 1
  | .held _ => 1
def uptoBulkAll {H : Type} : List (DataW H) → Nat
  | [] => 0
  | d :: r => uptoBulk d + uptoBulkAll r
def uptoBulkEntries {H : Type} : List (Lit × DataW H) → Nat
  | [] => 0
  | x :: r => uptoBulkEntry x + uptoBulkEntries r
def uptoBulkEntry {H : Type} : Lit × DataW H → Nat
  | (.string bytes, d) => bytes.length + uptoBulk d + 1
  | (_, d) => uptoBulk d + 1
 end
def uptoSmall : (H : Type) → List (DataW H) → Bool := fun _ ds => decide (uptoBulkAll ds ≤ 1048576)
def OpenSpec.upto (s : _root_.Go.ChangeSpec) : _root_.Go.OpenSpec := { _root_.Go.OpenSpec.ofChange s with cond := some uptoSmall }

/-- 'chancerylaw14.WithinBelow', WHERE WHAT IT READS IS OF BULK AT MOST 1048576: true; the input reads as it did. -/
def withinBelowUptoRow : OpenClaim := { program := "ytgnlcpoeepfdoaagreatdoor", sum := "e4ad36c9e920ab456eb192ee5c5db55e46c4695b3fa4edb1d050b74f88179b20", func := "chancery/chancerylaw14.WithinBelow", spec := "withinBelow", inPlace := ["internal/bytealg.IndexByteString", "internal/bytealg.IndexString", "internal/abi.NoEscape", "internal/bytealg.MakeNoZero"], unfollowed := true, recurses := true, named := ["internal/bytealg.MaxLen", "unicode/utf8.first", "unicode/utf8.acceptRanges"], apart := false, laid := [("unicode/utf8.acceptRanges", laid_unicode_utf8_acceptRanges), ("unicode/utf8.first", laid_unicode_utf8_first)], narrowed := true }
def WithinBelowUptoSaid : Prop := withinBelowUptoRow.holds Tryz.pinned (OpenSpec.upto withinBelowSpec)

/-- 'chancerylaw14.WithinLies', WHERE WHAT IT READS IS OF BULK AT MOST 1048576: true; the input reads as it did. -/
def withinLiesUptoRow : OpenClaim := { program := "ytgnlcpoeepfdoaagreatdoor", sum := "e4ad36c9e920ab456eb192ee5c5db55e46c4695b3fa4edb1d050b74f88179b20", func := "chancery/chancerylaw14.WithinLies", spec := "withinLies", inPlace := ["internal/bytealg.IndexByteString", "internal/bytealg.IndexString", "internal/abi.NoEscape", "internal/bytealg.MakeNoZero"], unfollowed := true, recurses := true, named := ["internal/bytealg.MaxLen", "unicode/utf8.first", "unicode/utf8.acceptRanges"], apart := false, laid := [("unicode/utf8.acceptRanges", laid_unicode_utf8_acceptRanges), ("unicode/utf8.first", laid_unicode_utf8_first)], narrowed := true }
def WithinLiesUptoSaid : Prop := withinLiesUptoRow.holds Tryz.pinned (OpenSpec.upto withinLiesSpec)

/-- 'chancerylaw14.WithinBoth', WHERE WHAT IT READS IS OF BULK AT MOST 1048576: true; the input reads as it did. -/
def withinBothUptoRow : OpenClaim := { program := "ytgnlcpoeepfdoaagreatdoor", sum := "e4ad36c9e920ab456eb192ee5c5db55e46c4695b3fa4edb1d050b74f88179b20", func := "chancery/chancerylaw14.WithinBoth", spec := "withinBoth", inPlace := ["internal/bytealg.IndexByteString", "internal/bytealg.IndexString", "internal/abi.NoEscape", "internal/bytealg.MakeNoZero"], unfollowed := true, recurses := true, named := ["internal/bytealg.MaxLen", "unicode/utf8.first", "unicode/utf8.acceptRanges"], apart := false, laid := [("unicode/utf8.acceptRanges", laid_unicode_utf8_acceptRanges), ("unicode/utf8.first", laid_unicode_utf8_first)], narrowed := true }
def WithinBothUptoSaid : Prop := withinBothUptoRow.holds Tryz.pinned (OpenSpec.upto withinBothSpec)

/-- 'chancerylaw14.WithinMore', WHERE WHAT IT READS IS OF BULK AT MOST 1048576: true; the input reads as it did. -/
def withinMoreUptoRow : OpenClaim := { program := "ytgnlcpoeepfdoaagreatdoor", sum := "e4ad36c9e920ab456eb192ee5c5db55e46c4695b3fa4edb1d050b74f88179b20", func := "chancery/chancerylaw14.WithinMore", spec := "withinMore", inPlace := ["internal/bytealg.IndexByteString", "internal/bytealg.IndexString", "internal/abi.NoEscape", "internal/bytealg.MakeNoZero"], unfollowed := true, recurses := true, named := ["internal/bytealg.MaxLen", "unicode/utf8.first", "unicode/utf8.acceptRanges"], apart := false, laid := [("unicode/utf8.acceptRanges", laid_unicode_utf8_acceptRanges), ("unicode/utf8.first", laid_unicode_utf8_first)], narrowed := true }
def WithinMoreUptoSaid : Prop := withinMoreUptoRow.holds Tryz.pinned (OpenSpec.upto withinMoreSpec)

/-- 'chancerylaw14.WithinChecks', WHERE WHAT IT READS IS OF BULK AT MOST 1048576: true; the input reads as it did. -/
def withinChecksUptoRow : OpenClaim := { program := "ytgnlcpoeepfdoaagreatdoor", sum := "e4ad36c9e920ab456eb192ee5c5db55e46c4695b3fa4edb1d050b74f88179b20", func := "chancery/chancerylaw14.WithinChecks", spec := "withinChecks", inPlace := ["internal/bytealg.IndexByteString", "internal/bytealg.IndexString", "internal/abi.NoEscape", "internal/bytealg.MakeNoZero"], unfollowed := true, recurses := true, named := ["internal/bytealg.MaxLen", "unicode/utf8.first", "unicode/utf8.acceptRanges"], apart := false, laid := [("unicode/utf8.acceptRanges", laid_unicode_utf8_acceptRanges), ("unicode/utf8.first", laid_unicode_utf8_first)], narrowed := true }
def WithinChecksUptoSaid : Prop := withinChecksUptoRow.holds Tryz.pinned (OpenSpec.upto withinChecksSpec)

end Rows
end Go.Proofs.YtgnlcpoeepfdoaaGreatDoor
