/-
  No cell of these rows narrows 'for every input' (looked for: loops, veiled, ifaces, maps, wideKeys, modest, calm, conditions, laid).
  DERIVED. THE GIVEN ROWS OF THIS SEAT. 3 by the template 'for every input the law returns true; each argument reads behind the call as it read before'; 0 by the template 'total and deterministic' (their statements: YtiofbnlbfmbodaaTotals.lean).
  GIVEN WITH THE SEED: the statements are not yours to turn. If you find one false, say at which input.
  Laid BY PROGRAM, IN A SANDBOX (cutbox-rows.mjs): the forced cells as the released guide's own fill.sh prints them over the translation c341b0abf6136192… (all of the seat's roots in one cut). By AI agents, Wed Nov 11 2026. No macro, syntax, notation, axiom, sorry.
-/
import Derived.Test.YtiofbnlbfmbodaaChecked
import GoSem.Claim
import GoSem.ClaimJoined
import GoSem.ClaimMapViews
import Derived.JoinedTies
import Derived.KernelRfl
namespace Go.Proofs.Ytiofbnlbfmbodaa
/- THE CELL 'sum', in the pinned program and in every row, IS THE sha256 OF THE DUMP (.gsa) THAT YtiofbnlbfmbodaaProg.lean LOADS. Nothing in Lean hashes anything: it is a label: what it is worth is what the hold of that sum in a sandbox is worth. -/
noncomputable def Try.pinned : Pinned := { name := "ytiofbnlbfmbodaa", sum := "c341b0abf6136192ac8daad53f9cc97762e106f4be419c5b4b66110f0d8b47ac", checked := Try.checked }
namespace Rows
def none {H : Type} : Left H := { results := [], args := [] }

/-- 'chancerylaw15.ExtLists': WHATEVER THE INPUT: true; the input reads as it did. -/
def extListsSpec : ChangeSpec := { name := "extLists", fn := fun _ => fun
  | [d1, d2] => { results := [.lit (.bool true)], args := [d1, d2] }
  | _ => none }
def extListsRow : OpenClaim := { program := "ytiofbnlbfmbodaa", sum := "c341b0abf6136192ac8daad53f9cc97762e106f4be419c5b4b66110f0d8b47ac", func := "chancery/chancerylaw15.ExtLists", spec := "extLists", unfollowed := true, recurses := true, apart := false }
def ExtListsSaid : Prop := extListsRow.holds Try.pinned (OpenSpec.ofChange extListsSpec)

/-- ITS FALSE NEIGHBOUR: 'it returns false'. Refute it at one input. -/
def extListsWrong : ChangeSpec := { name := "extLists", fn := fun _ => fun
  | [d1, d2] => { results := [.lit (.bool false)], args := [d1, d2] }
  | _ => none }
def ExtListsWrongFalsely : Prop := extListsRow.holds Try.pinned (OpenSpec.ofChange extListsWrong)

/-- 'chancerylaw15.ExtDecodes': WHATEVER THE INPUT: true; the input reads as it did. -/
def extDecodesSpec : ChangeSpec := { name := "extDecodes", fn := fun _ => fun
  | [d] => { results := [.lit (.bool true)], args := [d] }
  | _ => none }
def extDecodesRow : OpenClaim := { program := "ytiofbnlbfmbodaa", sum := "c341b0abf6136192ac8daad53f9cc97762e106f4be419c5b4b66110f0d8b47ac", func := "chancery/chancerylaw15.ExtDecodes", spec := "extDecodes", unfollowed := true, recurses := true, apart := false }
def ExtDecodesSaid : Prop := extDecodesRow.holds Try.pinned (OpenSpec.ofChange extDecodesSpec)

/-- ITS FALSE NEIGHBOUR: 'it returns false'. Refute it at one input. -/
def extDecodesWrong : ChangeSpec := { name := "extDecodes", fn := fun _ => fun
  | [d] => { results := [.lit (.bool false)], args := [d] }
  | _ => none }
def ExtDecodesWrongFalsely : Prop := extDecodesRow.holds Try.pinned (OpenSpec.ofChange extDecodesWrong)

/-- 'chancerylaw15.ExtSmallReads': WHATEVER THE INPUT: true; the input reads as it did. -/
def extSmallReadsSpec : ChangeSpec := { name := "extSmallReads", fn := fun _ => fun
  | [d] => { results := [.lit (.bool true)], args := [d] }
  | _ => none }
def extSmallReadsRow : OpenClaim := { program := "ytiofbnlbfmbodaa", sum := "c341b0abf6136192ac8daad53f9cc97762e106f4be419c5b4b66110f0d8b47ac", func := "chancery/chancerylaw15.ExtSmallReads", spec := "extSmallReads", unfollowed := true, recurses := true, apart := false }
def ExtSmallReadsSaid : Prop := extSmallReadsRow.holds Try.pinned (OpenSpec.ofChange extSmallReadsSpec)

/-- ITS FALSE NEIGHBOUR: 'it returns false'. Refute it at one input. -/
def extSmallReadsWrong : ChangeSpec := { name := "extSmallReads", fn := fun _ => fun
  | [d] => { results := [.lit (.bool false)], args := [d] }
  | _ => none }
def ExtSmallReadsWrongFalsely : Prop := extSmallReadsRow.holds Try.pinned (OpenSpec.ofChange extSmallReadsWrong)

/- THE SECOND FORM. 'bulk': how many values and letters a reading holds, each counted each time it is reached (what is shared counts as often as it is met; a slice's spare places count too). A statement '..UptoSaid' is the law's where the arguments, and the package variables that the reading takes, are together of bulk at most 1048576: NARROWER than '..Said'. Prove '..Said' where nothing that the law and all that it calls make is longer than what came in: it says more and counts as full. Else prove '..UptoSaid'. A law counts once. -/
mutual
def uptoBulk {H : Type} : DataW H → Nat
  | .lit (.string bytes) => bytes.length + 1
  | .lit _ => 1
  | .nil => 1
  | .ptr d => uptoBulk d + 1
  | .slice elems spare => uptoBulkAll elems + uptoBulkAll spare + 1
  | .agg parts => uptoBulkAll parts + 1
  | .iface _ d => uptoBulk d + 1
  | .map entries => uptoBulkEntries entries + 1
  | .held _ => 1
def uptoBulkAll {H : Type} : List (DataW H) → Nat
  | [] => 0
  | d :: r => uptoBulk d + uptoBulkAll r
def uptoBulkEntries {H : Type} : List (Lit × DataW H) → Nat
  | [] => 0
  | x :: r => uptoBulkEntry x + uptoBulkEntries r
def uptoBulkEntry {H : Type} : Lit × DataW H → Nat
  | (.string bytes, d) => bytes.length + uptoBulk d + 1
  | (_, d) => uptoBulk d + 1
 end
def uptoSmall : (H : Type) → List (DataW H) → Bool := fun _ ds => decide (uptoBulkAll ds ≤ 1048576)
def OpenSpec.upto (s : _root_.Go.ChangeSpec) : _root_.Go.OpenSpec := { _root_.Go.OpenSpec.ofChange s with cond := some uptoSmall }

/-- 'chancerylaw15.ExtLists', WHERE WHAT IT READS IS OF BULK AT MOST 1048576: true; the input reads as it did. -/
def extListsUptoRow : OpenClaim := { program := "ytiofbnlbfmbodaa", sum := "c341b0abf6136192ac8daad53f9cc97762e106f4be419c5b4b66110f0d8b47ac", func := "chancery/chancerylaw15.ExtLists", spec := "extLists", unfollowed := true, recurses := true, apart := false, narrowed := true }
def ExtListsUptoSaid : Prop := extListsUptoRow.holds Try.pinned (OpenSpec.upto extListsSpec)

/-- 'chancerylaw15.ExtDecodes', WHERE WHAT IT READS IS OF BULK AT MOST 1048576: true; the input reads as it did. -/
def extDecodesUptoRow : OpenClaim := { program := "ytiofbnlbfmbodaa", sum := "c341b0abf6136192ac8daad53f9cc97762e106f4be419c5b4b66110f0d8b47ac", func := "chancery/chancerylaw15.ExtDecodes", spec := "extDecodes", unfollowed := true, recurses := true, apart := false, narrowed := true }
def ExtDecodesUptoSaid : Prop := extDecodesUptoRow.holds Try.pinned (OpenSpec.upto extDecodesSpec)

/-- 'chancerylaw15.ExtSmallReads', WHERE WHAT IT READS IS OF BULK AT MOST 1048576: true; the input reads as it did. -/
def extSmallReadsUptoRow : OpenClaim := { program := "ytiofbnlbfmbodaa", sum := "c341b0abf6136192ac8daad53f9cc97762e106f4be419c5b4b66110f0d8b47ac", func := "chancery/chancerylaw15.ExtSmallReads", spec := "extSmallReads", unfollowed := true, recurses := true, apart := false, narrowed := true }
def ExtSmallReadsUptoSaid : Prop := extSmallReadsUptoRow.holds Try.pinned (OpenSpec.upto extSmallReadsSpec)

end Rows
end Go.Proofs.Ytiofbnlbfmbodaa
