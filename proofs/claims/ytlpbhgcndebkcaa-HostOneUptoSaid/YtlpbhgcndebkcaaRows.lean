/-
  No cell of these rows narrows 'for every input' (looked for: loops, veiled, ifaces, maps, wideKeys, modest, calm, conditions, laid).
  DERIVED. THE GIVEN ROWS OF THIS SEAT. 4 by the template 'for every input the law returns true; each argument reads behind the call as it read before'; 0 by the template 'total and deterministic' (their statements: YtlpbhgcndebkcaaTotals.lean).
  GIVEN WITH THE SEED: the statements are not yours to turn. If you find one false, say at which input.
  Laid BY PROGRAM, IN A SANDBOX (cutbox-rows.mjs): the forced cells as the released guide's own fill.sh prints them over the translation 361024cc5b7dd08a… (all of the seat's roots in one cut). By AI agents, Wed Nov 11 2026. No macro, syntax, notation, axiom, sorry.
-/
import Derived.Test.YtlpbhgcndebkcaaChecked
import GoSem.Claim
import GoSem.ClaimJoined
import GoSem.ClaimMapViews
import Derived.JoinedTies
import Derived.KernelRfl
namespace Go.Proofs.Ytlpbhgcndebkcaa
/- THE CELL 'sum', in the pinned program and in every row, IS THE sha256 OF THE DUMP (.gsa) THAT YtlpbhgcndebkcaaProg.lean LOADS. Nothing in Lean hashes anything: it is a label: what it is worth is what the hold of that sum in a sandbox is worth. -/
noncomputable def Try.pinned : Pinned := { name := "ytlpbhgcndebkcaa", sum := "361024cc5b7dd08a367eecdca827df765f140f935e4aa06e6450ee5fae0febbe", checked := Try.checked }
namespace Rows
def none {H : Type} : Left H := { results := [], args := [] }

/-- 'chancerylaw13.HostMays': WHATEVER THE INPUT: true; the input reads as it did. -/
def hostMaysSpec : ChangeSpec := { name := "hostMays", fn := fun _ => fun
  | [d] => { results := [.lit (.bool true)], args := [d] }
  | _ => none }
def hostMaysRow : OpenClaim := { program := "ytlpbhgcndebkcaa", sum := "361024cc5b7dd08a367eecdca827df765f140f935e4aa06e6450ee5fae0febbe", func := "chancery/chancerylaw13.HostMays", spec := "hostMays", inPlace := ["internal/bytealg.IndexByteString", "internal/bytealg.IndexString"], unfollowed := true, recurses := true, named := ["internal/bytealg.MaxLen"], apart := false }
def HostMaysSaid : Prop := hostMaysRow.holds Try.pinned (OpenSpec.ofChange hostMaysSpec)

/-- ITS FALSE NEIGHBOUR: 'it returns false'. Refute it at one input. -/
def hostMaysWrong : ChangeSpec := { name := "hostMays", fn := fun _ => fun
  | [d] => { results := [.lit (.bool false)], args := [d] }
  | _ => none }
def HostMaysWrongFalsely : Prop := hostMaysRow.holds Try.pinned (OpenSpec.ofChange hostMaysWrong)

/-- 'chancerylaw13.HostLabels': WHATEVER THE INPUT: true; the input reads as it did. -/
def hostLabelsSpec : ChangeSpec := { name := "hostLabels", fn := fun _ => fun
  | [d1, d2] => { results := [.lit (.bool true)], args := [d1, d2] }
  | _ => none }
def hostLabelsRow : OpenClaim := { program := "ytlpbhgcndebkcaa", sum := "361024cc5b7dd08a367eecdca827df765f140f935e4aa06e6450ee5fae0febbe", func := "chancery/chancerylaw13.HostLabels", spec := "hostLabels", inPlace := ["internal/bytealg.IndexByteString", "internal/bytealg.IndexString"], unfollowed := true, recurses := true, named := ["internal/bytealg.MaxLen"], apart := false }
def HostLabelsSaid : Prop := hostLabelsRow.holds Try.pinned (OpenSpec.ofChange hostLabelsSpec)

/-- ITS FALSE NEIGHBOUR: 'it returns false'. Refute it at one input. -/
def hostLabelsWrong : ChangeSpec := { name := "hostLabels", fn := fun _ => fun
  | [d1, d2] => { results := [.lit (.bool false)], args := [d1, d2] }
  | _ => none }
def HostLabelsWrongFalsely : Prop := hostLabelsRow.holds Try.pinned (OpenSpec.ofChange hostLabelsWrong)

/-- 'chancerylaw13.HostOne': WHATEVER THE INPUT: true; the input reads as it did. -/
def hostOneSpec : ChangeSpec := { name := "hostOne", fn := fun _ => fun
  | [d1, d2] => { results := [.lit (.bool true)], args := [d1, d2] }
  | _ => none }
def hostOneRow : OpenClaim := { program := "ytlpbhgcndebkcaa", sum := "361024cc5b7dd08a367eecdca827df765f140f935e4aa06e6450ee5fae0febbe", func := "chancery/chancerylaw13.HostOne", spec := "hostOne", inPlace := ["internal/bytealg.IndexByteString", "internal/bytealg.IndexString"], unfollowed := true, recurses := true, named := ["internal/bytealg.MaxLen"], apart := false }
def HostOneSaid : Prop := hostOneRow.holds Try.pinned (OpenSpec.ofChange hostOneSpec)

/-- ITS FALSE NEIGHBOUR: 'it returns false'. Refute it at one input. -/
def hostOneWrong : ChangeSpec := { name := "hostOne", fn := fun _ => fun
  | [d1, d2] => { results := [.lit (.bool false)], args := [d1, d2] }
  | _ => none }
def HostOneWrongFalsely : Prop := hostOneRow.holds Try.pinned (OpenSpec.ofChange hostOneWrong)

/-- 'chancerylaw13.HostMatches': WHATEVER THE INPUT: true; the input reads as it did. -/
def hostMatchesSpec : ChangeSpec := { name := "hostMatches", fn := fun _ => fun
  | [d1, d2] => { results := [.lit (.bool true)], args := [d1, d2] }
  | _ => none }
def hostMatchesRow : OpenClaim := { program := "ytlpbhgcndebkcaa", sum := "361024cc5b7dd08a367eecdca827df765f140f935e4aa06e6450ee5fae0febbe", func := "chancery/chancerylaw13.HostMatches", spec := "hostMatches", inPlace := ["internal/bytealg.IndexByteString", "internal/bytealg.IndexString"], unfollowed := true, recurses := true, named := ["internal/bytealg.MaxLen"], apart := false }
def HostMatchesSaid : Prop := hostMatchesRow.holds Try.pinned (OpenSpec.ofChange hostMatchesSpec)

/-- ITS FALSE NEIGHBOUR: 'it returns false'. Refute it at one input. -/
def hostMatchesWrong : ChangeSpec := { name := "hostMatches", fn := fun _ => fun
  | [d1, d2] => { results := [.lit (.bool false)], args := [d1, d2] }
  | _ => none }
def HostMatchesWrongFalsely : Prop := hostMatchesRow.holds Try.pinned (OpenSpec.ofChange hostMatchesWrong)

/- THE SECOND FORM. 'bulk': how many values and letters a reading holds, each counted each time it is reached (what is shared counts as often as it is met; a slice's spare places count too). A statement '..UptoSaid' is the law's where the arguments, and the package variables that the reading takes, are together of bulk at most 1048576: NARROWER than '..Said'. Prove '..Said' where nothing that the law and all that it calls make is longer than what came in: it says more and counts as full. Else prove '..UptoSaid'. A law counts once. -/
mutual
def uptoBulk {H : Type} : DataW H → Nat
  | .lit (.string bytes) => bytes.length + 1
  | .lit _ => 1
  | .nil => 1
  | .ptr d => uptoBulk d + 1
  | .slice elems spare => uptoBulkAll elems + uptoBulkAll spare + 1
  | .agg parts => uptoBulkAll parts + 1
  | .iface _ d => uptoBulk d + 1
  | .map entries => uptoBulkEntries entries + 1
  | .held _ => 1
def uptoBulkAll {H : Type} : List (DataW H) → Nat
  | [] => 0
  | d :: r => uptoBulk d + uptoBulkAll r
def uptoBulkEntries {H : Type} : List (Lit × DataW H) → Nat
  | [] => 0
  | x :: r => uptoBulkEntry x + uptoBulkEntries r
def uptoBulkEntry {H : Type} : Lit × DataW H → Nat
  | (.string bytes, d) => bytes.length + uptoBulk d + 1
  | (_, d) => uptoBulk d + 1
 end
def uptoSmall : (H : Type) → List (DataW H) → Bool := fun _ ds => decide (uptoBulkAll ds ≤ 1048576)
def OpenSpec.upto (s : _root_.Go.ChangeSpec) : _root_.Go.OpenSpec := { _root_.Go.OpenSpec.ofChange s with cond := some uptoSmall }

/-- 'chancerylaw13.HostMays', WHERE WHAT IT READS IS OF BULK AT MOST 1048576: true; the input reads as it did. -/
def hostMaysUptoRow : OpenClaim := { program := "ytlpbhgcndebkcaa", sum := "361024cc5b7dd08a367eecdca827df765f140f935e4aa06e6450ee5fae0febbe", func := "chancery/chancerylaw13.HostMays", spec := "hostMays", inPlace := ["internal/bytealg.IndexByteString", "internal/bytealg.IndexString"], unfollowed := true, recurses := true, named := ["internal/bytealg.MaxLen"], apart := false, narrowed := true }
def HostMaysUptoSaid : Prop := hostMaysUptoRow.holds Try.pinned (OpenSpec.upto hostMaysSpec)

/-- 'chancerylaw13.HostLabels', WHERE WHAT IT READS IS OF BULK AT MOST 1048576: true; the input reads as it did. -/
def hostLabelsUptoRow : OpenClaim := { program := "ytlpbhgcndebkcaa", sum := "361024cc5b7dd08a367eecdca827df765f140f935e4aa06e6450ee5fae0febbe", func := "chancery/chancerylaw13.HostLabels", spec := "hostLabels", inPlace := ["internal/bytealg.IndexByteString", "internal/bytealg.IndexString"], unfollowed := true, recurses := true, named := ["internal/bytealg.MaxLen"], apart := false, narrowed := true }
def HostLabelsUptoSaid : Prop := hostLabelsUptoRow.holds Try.pinned (OpenSpec.upto hostLabelsSpec)

/-- 'chancerylaw13.HostOne', WHERE WHAT IT READS IS OF BULK AT MOST 1048576: true; the input reads as it did. -/
def hostOneUptoRow : OpenClaim := { program := "ytlpbhgcndebkcaa", sum := "361024cc5b7dd08a367eecdca827df765f140f935e4aa06e6450ee5fae0febbe", func := "chancery/chancerylaw13.HostOne", spec := "hostOne", inPlace := ["internal/bytealg.IndexByteString", "internal/bytealg.IndexString"], unfollowed := true, recurses := true, named := ["internal/bytealg.MaxLen"], apart := false, narrowed := true }
def HostOneUptoSaid : Prop := hostOneUptoRow.holds Try.pinned (OpenSpec.upto hostOneSpec)

/-- 'chancerylaw13.HostMatches', WHERE WHAT IT READS IS OF BULK AT MOST 1048576: true; the input reads as it did. -/
def hostMatchesUptoRow : OpenClaim := { program := "ytlpbhgcndebkcaa", sum := "361024cc5b7dd08a367eecdca827df765f140f935e4aa06e6450ee5fae0febbe", func := "chancery/chancerylaw13.HostMatches", spec := "hostMatches", inPlace := ["internal/bytealg.IndexByteString", "internal/bytealg.IndexString"], unfollowed := true, recurses := true, named := ["internal/bytealg.MaxLen"], apart := false, narrowed := true }
def HostMatchesUptoSaid : Prop := hostMatchesUptoRow.holds Try.pinned (OpenSpec.upto hostMatchesSpec)

end Rows
end Go.Proofs.Ytlpbhgcndebkcaa
