/-
  DERIVED. GIVEN WITH THE SEED: THE CARDS: each row of YtiofbnlbfmbodaaGreatDoorRows.lean that lists a variable, with what it lists TIED to the program's text (the seventh form; the later family's looks); each row that meets fmt, with fmt's text TOLD by the authors' own Lean function (tested against real Go, not proved from fmt's source: count such statements apart). THE CARD IS WHAT COUNTS. Prove the row's statement (the work); the ties are given (YtiofbnlbfmbodaaGreatDoorTie.lean); close each card by the builder's one call (the guide's Derived/Test/ToyasCard.lean, 'card_holds'). Laid BY PROGRAM, IN A SANDBOX (cutbox-door.mjs). By AI agents, Wed Nov 11 2026. No macro, syntax, notation, axiom, sorry.
-/
import Derived.Test.YtiofbnlbfmbodaaGreatDoorRows
import GoSem.ClaimSeven
namespace Go.Proofs.YtiofbnlbfmbodaaGreatDoor
namespace Rows

/-- THE TIED CARD OF 'chancerylaw15.ExtTrees'. -/
def extTreesCard : Claim7 := { stood := { row := extTreesRow, standIns := [], harness := (true, "3cc95676997a908bc770d6925a1f91b22a5060ede23dbdadfb5c2c6657177fbb"), looks := true }, kinds := [], alts := [], laidByText := true, laidKinds := [.data, .pinned], laidTests := true, laidLooks := .later }
def ExtTreesCardSaid : Prop := Claim7.holds Tryz.pinned (.plain (OpenSpec.ofChange extTreesSpec)) extTreesCard

/-- THE TIED CARD OF 'chancerylaw15.ExtNames'. -/
def extNamesCard : Claim7 := { stood := { row := extNamesRow, standIns := [], harness := (true, "3cc95676997a908bc770d6925a1f91b22a5060ede23dbdadfb5c2c6657177fbb"), looks := true }, kinds := [], alts := [], laidByText := true, laidKinds := [.data, .pinned], laidTests := true, laidLooks := .later }
def ExtNamesCardSaid : Prop := Claim7.holds Tryz.pinned (.plain (OpenSpec.ofChange extNamesSpec)) extNamesCard

/-- THE TIED CARD OF 'chancerylaw15.ExtBack'. -/
def extBackCard : Claim7 := { stood := { row := extBackRow, standIns := [], harness := (true, "3cc95676997a908bc770d6925a1f91b22a5060ede23dbdadfb5c2c6657177fbb"), looks := true }, kinds := [], alts := [], laidByText := true, laidKinds := [.data, .pinned], laidTests := true, laidLooks := .later }
def ExtBackCardSaid : Prop := Claim7.holds Tryz.pinned (.plain (OpenSpec.ofChange extBackSpec)) extBackCard

/-- THE TIED CARD OF 'chancerylaw15.ExtOnce'. -/
def extOnceCard : Claim7 := { stood := { row := extOnceRow, standIns := [], harness := (true, "3cc95676997a908bc770d6925a1f91b22a5060ede23dbdadfb5c2c6657177fbb"), looks := true }, kinds := [], alts := [], laidByText := true, laidKinds := [.data, .pinned], laidTests := true, laidLooks := .later }
def ExtOnceCardSaid : Prop := Claim7.holds Tryz.pinned (.plain (OpenSpec.ofChange extOnceSpec)) extOnceCard

/-- THE SECOND FORM's CARD OF 'chancerylaw15.ExtTrees'. -/
def extTreesUptoCard : Claim7 := { stood := { row := extTreesUptoRow, standIns := [], harness := (true, "3cc95676997a908bc770d6925a1f91b22a5060ede23dbdadfb5c2c6657177fbb"), looks := true }, kinds := [], alts := [], laidByText := true, laidKinds := [.data, .pinned], laidTests := true, laidLooks := .later }
def ExtTreesUptoCardSaid : Prop := Claim7.holds Tryz.pinned (.plain (OpenSpec.upto extTreesSpec)) extTreesUptoCard

/-- THE SECOND FORM's CARD OF 'chancerylaw15.ExtNames'. -/
def extNamesUptoCard : Claim7 := { stood := { row := extNamesUptoRow, standIns := [], harness := (true, "3cc95676997a908bc770d6925a1f91b22a5060ede23dbdadfb5c2c6657177fbb"), looks := true }, kinds := [], alts := [], laidByText := true, laidKinds := [.data, .pinned], laidTests := true, laidLooks := .later }
def ExtNamesUptoCardSaid : Prop := Claim7.holds Tryz.pinned (.plain (OpenSpec.upto extNamesSpec)) extNamesUptoCard

/-- THE SECOND FORM's CARD OF 'chancerylaw15.ExtBack'. -/
def extBackUptoCard : Claim7 := { stood := { row := extBackUptoRow, standIns := [], harness := (true, "3cc95676997a908bc770d6925a1f91b22a5060ede23dbdadfb5c2c6657177fbb"), looks := true }, kinds := [], alts := [], laidByText := true, laidKinds := [.data, .pinned], laidTests := true, laidLooks := .later }
def ExtBackUptoCardSaid : Prop := Claim7.holds Tryz.pinned (.plain (OpenSpec.upto extBackSpec)) extBackUptoCard

/-- THE SECOND FORM's CARD OF 'chancerylaw15.ExtOnce'. -/
def extOnceUptoCard : Claim7 := { stood := { row := extOnceUptoRow, standIns := [], harness := (true, "3cc95676997a908bc770d6925a1f91b22a5060ede23dbdadfb5c2c6657177fbb"), looks := true }, kinds := [], alts := [], laidByText := true, laidKinds := [.data, .pinned], laidTests := true, laidLooks := .later }
def ExtOnceUptoCardSaid : Prop := Claim7.holds Tryz.pinned (.plain (OpenSpec.upto extOnceSpec)) extOnceUptoCard
end Rows
end Go.Proofs.YtiofbnlbfmbodaaGreatDoor
