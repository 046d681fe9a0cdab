/-
  No cell of these rows narrows 'for every input' (looked for: loops, veiled, ifaces, maps, wideKeys, modest, calm, conditions, laid).
  DERIVED. THE GIVEN ROWS OF THIS SEAT. 4 by the template 'for every input the law returns true; each argument reads behind the call as it read before'; 0 by the template 'total and deterministic' (their statements: YtnlpnkejhepflaaTotals.lean).
  GIVEN WITH THE SEED: the statements are not yours to turn. If you find one false, say at which input.
  Laid BY PROGRAM, IN A SANDBOX (cutbox-rows.mjs): the forced cells as the released guide's own fill.sh prints them over the translation e45256bce8028679… (all of the seat's roots in one cut). By AI agents, Wed Nov 11 2026. No macro, syntax, notation, axiom, sorry.
-/
import Derived.Test.YtnlpnkejhepflaaChecked
import GoSem.Claim
import GoSem.ClaimJoined
import GoSem.ClaimMapViews
import Derived.JoinedTies
import Derived.KernelRfl
namespace Go.Proofs.Ytnlpnkejhepflaa
/- THE CELL 'sum', in the pinned program and in every row, IS THE sha256 OF THE DUMP (.gsa) THAT YtnlpnkejhepflaaProg.lean LOADS. Nothing in Lean hashes anything: it is a label: what it is worth is what the hold of that sum in a sandbox is worth. -/
noncomputable def Try.pinned : Pinned := { name := "ytnlpnkejhepflaa", sum := "e45256bce80286791816a85a6b4f74fd79ee8431c9639a023ce6fc6007eb324c", checked := Try.checked }
namespace Rows
def none {H : Type} : Left H := { results := [], args := [] }

/-- 'chancerylaw27.SerialOf': WHATEVER THE INPUT: true; the input reads as it did. -/
def serialOfSpec : ChangeSpec := { name := "serialOf", fn := fun _ => fun
  | [d] => { results := [.lit (.bool true)], args := [d] }
  | _ => none }
def serialOfRow : OpenClaim := { program := "ytnlpnkejhepflaa", sum := "e45256bce80286791816a85a6b4f74fd79ee8431c9639a023ce6fc6007eb324c", func := "chancery/chancerylaw27.SerialOf", spec := "serialOf", apart := false }
def SerialOfSaid : Prop := serialOfRow.holds Try.pinned (OpenSpec.ofChange serialOfSpec)

/-- ITS FALSE NEIGHBOUR: 'it returns false'. Refute it at one input. -/
def serialOfWrong : ChangeSpec := { name := "serialOf", fn := fun _ => fun
  | [d] => { results := [.lit (.bool false)], args := [d] }
  | _ => none }
def SerialOfWrongFalsely : Prop := serialOfRow.holds Try.pinned (OpenSpec.ofChange serialOfWrong)

/-- 'chancerylaw27.SerialPicks': WHATEVER THE INPUT: true; the input reads as it did. -/
def serialPicksSpec : ChangeSpec := { name := "serialPicks", fn := fun _ => fun
  | [d1, d2] => { results := [.lit (.bool true)], args := [d1, d2] }
  | _ => none }
def serialPicksRow : OpenClaim := { program := "ytnlpnkejhepflaa", sum := "e45256bce80286791816a85a6b4f74fd79ee8431c9639a023ce6fc6007eb324c", func := "chancery/chancerylaw27.SerialPicks", spec := "serialPicks", unfollowed := true, recurses := true, apart := false }
def SerialPicksSaid : Prop := serialPicksRow.holds Try.pinned (OpenSpec.ofChange serialPicksSpec)

/-- ITS FALSE NEIGHBOUR: 'it returns false'. Refute it at one input. -/
def serialPicksWrong : ChangeSpec := { name := "serialPicks", fn := fun _ => fun
  | [d1, d2] => { results := [.lit (.bool false)], args := [d1, d2] }
  | _ => none }
def SerialPicksWrongFalsely : Prop := serialPicksRow.holds Try.pinned (OpenSpec.ofChange serialPicksWrong)

/-- 'chancerylaw27.SerialNobody': WHATEVER THE INPUT: true; the input reads as it did. -/
def serialNobodySpec : ChangeSpec := { name := "serialNobody", fn := fun _ => fun
  | [d] => { results := [.lit (.bool true)], args := [d] }
  | _ => none }
def serialNobodyRow : OpenClaim := { program := "ytnlpnkejhepflaa", sum := "e45256bce80286791816a85a6b4f74fd79ee8431c9639a023ce6fc6007eb324c", func := "chancery/chancerylaw27.SerialNobody", spec := "serialNobody", unfollowed := true, recurses := true, apart := false }
def SerialNobodySaid : Prop := serialNobodyRow.holds Try.pinned (OpenSpec.ofChange serialNobodySpec)

/-- ITS FALSE NEIGHBOUR: 'it returns false'. Refute it at one input. -/
def serialNobodyWrong : ChangeSpec := { name := "serialNobody", fn := fun _ => fun
  | [d] => { results := [.lit (.bool false)], args := [d] }
  | _ => none }
def SerialNobodyWrongFalsely : Prop := serialNobodyRow.holds Try.pinned (OpenSpec.ofChange serialNobodyWrong)

/-- 'chancerylaw27.SerialSource': WHATEVER THE INPUT: true; the input reads as it did. -/
def serialSourceSpec : ChangeSpec := { name := "serialSource", fn := fun _ => fun
  | [d1, d2, d3] => { results := [.lit (.bool true)], args := [d1, d2, d3] }
  | _ => none }
def serialSourceRow : OpenClaim := { program := "ytnlpnkejhepflaa", sum := "e45256bce80286791816a85a6b4f74fd79ee8431c9639a023ce6fc6007eb324c", func := "chancery/chancerylaw27.SerialSource", spec := "serialSource", unfollowed := true, recurses := true, apart := false }
def SerialSourceSaid : Prop := serialSourceRow.holds Try.pinned (OpenSpec.ofChange serialSourceSpec)

/-- ITS FALSE NEIGHBOUR: 'it returns false'. Refute it at one input. -/
def serialSourceWrong : ChangeSpec := { name := "serialSource", fn := fun _ => fun
  | [d1, d2, d3] => { results := [.lit (.bool false)], args := [d1, d2, d3] }
  | _ => none }
def SerialSourceWrongFalsely : Prop := serialSourceRow.holds Try.pinned (OpenSpec.ofChange serialSourceWrong)

/- THE SECOND FORM. 'bulk': how many values and letters a reading holds, each counted each time it is reached (what is shared counts as often as it is met; a slice's spare places count too). A statement '..UptoSaid' is the law's where the arguments, and the package variables that the reading takes, are together of bulk at most 1048576: NARROWER than '..Said'. Prove '..Said' where nothing that the law and all that it calls make is longer than what came in: it says more and counts as full. Else prove '..UptoSaid'. A law counts once. -/
mutual
def uptoBulk {H : Type} : DataW H → Nat
  | .lit (.string bytes) => bytes.length + 1
  | .lit _ => 1
  | .nil => 1
  | .ptr d => uptoBulk d + 1
  | .slice elems spare => uptoBulkAll elems + uptoBulkAll spare + 1
  | .agg parts => uptoBulkAll parts + 1
  | .iface _ d => uptoBulk d + 1
  | .map entries => uptoBulkEntries entries + 1
  | .held _ => 1
def uptoBulkAll {H : Type} : List (DataW H) → Nat
  | [] => 0
  | d :: r => uptoBulk d + uptoBulkAll r
def uptoBulkEntries {H : Type} : List (Lit × DataW H) → Nat
  | [] => 0
  | x :: r => uptoBulkEntry x + uptoBulkEntries r
def uptoBulkEntry {H : Type} : Lit × DataW H → Nat
  | (.string bytes, d) => bytes.length + uptoBulk d + 1
  | (_, d) => uptoBulk d + 1
 end
def uptoSmall : (H : Type) → List (DataW H) → Bool := fun _ ds => decide (uptoBulkAll ds ≤ 1048576)
def OpenSpec.upto (s : _root_.Go.ChangeSpec) : _root_.Go.OpenSpec := { _root_.Go.OpenSpec.ofChange s with cond := some uptoSmall }

/-- 'chancerylaw27.SerialOf', WHERE WHAT IT READS IS OF BULK AT MOST 1048576: true; the input reads as it did. -/
def serialOfUptoRow : OpenClaim := { program := "ytnlpnkejhepflaa", sum := "e45256bce80286791816a85a6b4f74fd79ee8431c9639a023ce6fc6007eb324c", func := "chancery/chancerylaw27.SerialOf", spec := "serialOf", apart := false, narrowed := true }
def SerialOfUptoSaid : Prop := serialOfUptoRow.holds Try.pinned (OpenSpec.upto serialOfSpec)

/-- 'chancerylaw27.SerialPicks', WHERE WHAT IT READS IS OF BULK AT MOST 1048576: true; the input reads as it did. -/
def serialPicksUptoRow : OpenClaim := { program := "ytnlpnkejhepflaa", sum := "e45256bce80286791816a85a6b4f74fd79ee8431c9639a023ce6fc6007eb324c", func := "chancery/chancerylaw27.SerialPicks", spec := "serialPicks", unfollowed := true, recurses := true, apart := false, narrowed := true }
def SerialPicksUptoSaid : Prop := serialPicksUptoRow.holds Try.pinned (OpenSpec.upto serialPicksSpec)

/-- 'chancerylaw27.SerialNobody', WHERE WHAT IT READS IS OF BULK AT MOST 1048576: true; the input reads as it did. -/
def serialNobodyUptoRow : OpenClaim := { program := "ytnlpnkejhepflaa", sum := "e45256bce80286791816a85a6b4f74fd79ee8431c9639a023ce6fc6007eb324c", func := "chancery/chancerylaw27.SerialNobody", spec := "serialNobody", unfollowed := true, recurses := true, apart := false, narrowed := true }
def SerialNobodyUptoSaid : Prop := serialNobodyUptoRow.holds Try.pinned (OpenSpec.upto serialNobodySpec)

/-- 'chancerylaw27.SerialSource', WHERE WHAT IT READS IS OF BULK AT MOST 1048576: true; the input reads as it did. -/
def serialSourceUptoRow : OpenClaim := { program := "ytnlpnkejhepflaa", sum := "e45256bce80286791816a85a6b4f74fd79ee8431c9639a023ce6fc6007eb324c", func := "chancery/chancerylaw27.SerialSource", spec := "serialSource", unfollowed := true, recurses := true, apart := false, narrowed := true }
def SerialSourceUptoSaid : Prop := serialSourceUptoRow.holds Try.pinned (OpenSpec.upto serialSourceSpec)

end Rows
end Go.Proofs.Ytnlpnkejhepflaa
