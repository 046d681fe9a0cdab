/-
  DERIVED. GIVEN WITH THE SEED: THE CARDS: each row of YtgnlcpoeepfdoaaGreatDoorRows.lean that lists a variable, with what it lists TIED to the program's text (the seventh form; the later family's looks); each row that meets fmt, with fmt's text TOLD by the authors' own Lean function (tested against real Go, not proved from fmt's source: count such statements apart). THE CARD IS WHAT COUNTS. Prove the row's statement (the work); the ties are given (YtgnlcpoeepfdoaaGreatDoorTie.lean); close each card by the builder's one call (the guide's Derived/Test/ToyasCard.lean, 'card_holds'). Laid BY PROGRAM, IN A SANDBOX (cutbox-door.mjs). By AI agents, Wed Nov 11 2026. No macro, syntax, notation, axiom, sorry.
-/
import Derived.Test.YtgnlcpoeepfdoaaGreatDoorRows
import GoSem.ClaimSeven
namespace Go.Proofs.YtgnlcpoeepfdoaaGreatDoor
namespace Rows

/-- THE TIED CARD OF 'chancerylaw14.WithinBelow'. -/
def withinBelowCard : Claim7 := { stood := { row := withinBelowRow, standIns := [], harness := (true, "651583fd833f3e6590796c4e87343b50f17091c9bd63b15a3cf9a3d904091872"), looks := true }, kinds := [], alts := [], laidByText := true, laidKinds := [.data, .pinned], laidTests := true, laidLooks := .later }
def WithinBelowCardSaid : Prop := Claim7.holds Tryz.pinned (.plain (OpenSpec.ofChange withinBelowSpec)) withinBelowCard

/-- THE TIED CARD OF 'chancerylaw14.WithinLies'. -/
def withinLiesCard : Claim7 := { stood := { row := withinLiesRow, standIns := [], harness := (true, "651583fd833f3e6590796c4e87343b50f17091c9bd63b15a3cf9a3d904091872"), looks := true }, kinds := [], alts := [], laidByText := true, laidKinds := [.data, .pinned], laidTests := true, laidLooks := .later }
def WithinLiesCardSaid : Prop := Claim7.holds Tryz.pinned (.plain (OpenSpec.ofChange withinLiesSpec)) withinLiesCard

/-- THE TIED CARD OF 'chancerylaw14.WithinBoth'. -/
def withinBothCard : Claim7 := { stood := { row := withinBothRow, standIns := [], harness := (true, "651583fd833f3e6590796c4e87343b50f17091c9bd63b15a3cf9a3d904091872"), looks := true }, kinds := [], alts := [], laidByText := true, laidKinds := [.data, .pinned], laidTests := true, laidLooks := .later }
def WithinBothCardSaid : Prop := Claim7.holds Tryz.pinned (.plain (OpenSpec.ofChange withinBothSpec)) withinBothCard

/-- THE TIED CARD OF 'chancerylaw14.WithinMore'. -/
def withinMoreCard : Claim7 := { stood := { row := withinMoreRow, standIns := [], harness := (true, "651583fd833f3e6590796c4e87343b50f17091c9bd63b15a3cf9a3d904091872"), looks := true }, kinds := [], alts := [], laidByText := true, laidKinds := [.data, .pinned], laidTests := true, laidLooks := .later }
def WithinMoreCardSaid : Prop := Claim7.holds Tryz.pinned (.plain (OpenSpec.ofChange withinMoreSpec)) withinMoreCard

/-- THE TIED CARD OF 'chancerylaw14.WithinChecks'. -/
def withinChecksCard : Claim7 := { stood := { row := withinChecksRow, standIns := [], harness := (true, "651583fd833f3e6590796c4e87343b50f17091c9bd63b15a3cf9a3d904091872"), looks := true }, kinds := [], alts := [], laidByText := true, laidKinds := [.data, .pinned], laidTests := true, laidLooks := .later }
def WithinChecksCardSaid : Prop := Claim7.holds Tryz.pinned (.plain (OpenSpec.ofChange withinChecksSpec)) withinChecksCard

/-- THE SECOND FORM's CARD OF 'chancerylaw14.WithinBelow'. -/
def withinBelowUptoCard : Claim7 := { stood := { row := withinBelowUptoRow, standIns := [], harness := (true, "651583fd833f3e6590796c4e87343b50f17091c9bd63b15a3cf9a3d904091872"), looks := true }, kinds := [], alts := [], laidByText := true, laidKinds := [.data, .pinned], laidTests := true, laidLooks := .later }
def WithinBelowUptoCardSaid : Prop := Claim7.holds Tryz.pinned (.plain (OpenSpec.upto withinBelowSpec)) withinBelowUptoCard

/-- THE SECOND FORM's CARD OF 'chancerylaw14.WithinLies'. -/
def withinLiesUptoCard : Claim7 := { stood := { row := withinLiesUptoRow, standIns := [], harness := (true, "651583fd833f3e6590796c4e87343b50f17091c9bd63b15a3cf9a3d904091872"), looks := true }, kinds := [], alts := [], laidByText := true, laidKinds := [.data, .pinned], laidTests := true, laidLooks := .later }
def WithinLiesUptoCardSaid : Prop := Claim7.holds Tryz.pinned (.plain (OpenSpec.upto withinLiesSpec)) withinLiesUptoCard

/-- THE SECOND FORM's CARD OF 'chancerylaw14.WithinBoth'. -/
def withinBothUptoCard : Claim7 := { stood := { row := withinBothUptoRow, standIns := [], harness := (true, "651583fd833f3e6590796c4e87343b50f17091c9bd63b15a3cf9a3d904091872"), looks := true }, kinds := [], alts := [], laidByText := true, laidKinds := [.data, .pinned], laidTests := true, laidLooks := .later }
def WithinBothUptoCardSaid : Prop := Claim7.holds Tryz.pinned (.plain (OpenSpec.upto withinBothSpec)) withinBothUptoCard

/-- THE SECOND FORM's CARD OF 'chancerylaw14.WithinMore'. -/
def withinMoreUptoCard : Claim7 := { stood := { row := withinMoreUptoRow, standIns := [], harness := (true, "651583fd833f3e6590796c4e87343b50f17091c9bd63b15a3cf9a3d904091872"), looks := true }, kinds := [], alts := [], laidByText := true, laidKinds := [.data, .pinned], laidTests := true, laidLooks := .later }
def WithinMoreUptoCardSaid : Prop := Claim7.holds Tryz.pinned (.plain (OpenSpec.upto withinMoreSpec)) withinMoreUptoCard

/-- THE SECOND FORM's CARD OF 'chancerylaw14.WithinChecks'. -/
def withinChecksUptoCard : Claim7 := { stood := { row := withinChecksUptoRow, standIns := [], harness := (true, "651583fd833f3e6590796c4e87343b50f17091c9bd63b15a3cf9a3d904091872"), looks := true }, kinds := [], alts := [], laidByText := true, laidKinds := [.data, .pinned], laidTests := true, laidLooks := .later }
def WithinChecksUptoCardSaid : Prop := Claim7.holds Tryz.pinned (.plain (OpenSpec.upto withinChecksSpec)) withinChecksUptoCard
end Rows
end Go.Proofs.YtgnlcpoeepfdoaaGreatDoor
