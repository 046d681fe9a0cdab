/-
  DERIVED. GIVEN WITH THE SEED: THE CARDS: each row of YtcaekpbmmbfeiaaDoorRows.lean that lists a variable, with what it lists TIED to the program's text (the seventh form; the later family's looks); each row that meets fmt, with fmt's text TOLD by the authors' own Lean function (tested against real Go, not proved from fmt's source: count such statements apart). THE CARD IS WHAT COUNTS. Prove the row's statement (the work); the ties are given (YtcaekpbmmbfeiaaDoorTie.lean); close each card by the builder's one call (the guide's Derived/Test/ToyasCard.lean, 'card_holds'). Laid BY PROGRAM, IN A SANDBOX (cutbox-door.mjs). By AI agents, Wed Nov 11 2026. No macro, syntax, notation, axiom, sorry.
-/
import Derived.Test.YtcaekpbmmbfeiaaDoorRows
import GoSem.ClaimSeven
namespace Go.Proofs.YtcaekpbmmbfeiaaDoor
namespace Rows

/-- THE TIED CARD OF 'chancerylaw12.NameCompares'. -/
def nameComparesCard : Claim7 := { stood := { row := nameComparesRow, standIns := [], harness := (true, "5b6d39105bbf5c5f60c913e0305eef32d7f23319d3b835128d6b372e9e87924f"), looks := true }, kinds := [], alts := [], laidByText := true, laidKinds := [.data, .pinned], laidTests := true, laidLooks := .later }
def NameComparesCardSaid : Prop := Claim7.holds Tryd.pinned (.plain (OpenSpec.ofChange nameComparesSpec)) nameComparesCard

/-- THE TIED CARD OF 'chancerylaw12.NameOrder'. -/
def nameOrderCard : Claim7 := { stood := { row := nameOrderRow, standIns := [], harness := (true, "5b6d39105bbf5c5f60c913e0305eef32d7f23319d3b835128d6b372e9e87924f"), looks := true }, kinds := [], alts := [], laidByText := true, laidKinds := [.data, .pinned], laidTests := true, laidLooks := .later }
def NameOrderCardSaid : Prop := Claim7.holds Tryd.pinned (.plain (OpenSpec.ofChange nameOrderSpec)) nameOrderCard

/-- THE TIED CARD OF 'chancerylaw12.NameParses'. -/
def nameParsesCard : Claim7 := { stood := { row := nameParsesRow, standIns := [], harness := (true, "5b6d39105bbf5c5f60c913e0305eef32d7f23319d3b835128d6b372e9e87924f"), looks := true }, kinds := [], alts := [], laidByText := true, laidKinds := [.data, .pinned], laidTests := true, laidLooks := .later }
def NameParsesCardSaid : Prop := Claim7.holds Tryd.pinned (.plain (OpenSpec.ofChange nameParsesSpec)) nameParsesCard

/-- THE TIED CARD OF 'chancerylaw12.NameDecodes'. -/
def nameDecodesCard : Claim7 := { stood := { row := nameDecodesRow, standIns := [], harness := (true, "5b6d39105bbf5c5f60c913e0305eef32d7f23319d3b835128d6b372e9e87924f"), looks := true }, kinds := [], alts := [], laidByText := true, laidKinds := [.data, .pinned], laidTests := true, laidLooks := .later }
def NameDecodesCardSaid : Prop := Claim7.holds Tryd.pinned (.plain (OpenSpec.ofChange nameDecodesSpec)) nameDecodesCard

/-- THE TIED CARD OF 'chancerylaw12.NameEncodes'. -/
def nameEncodesCard : Claim7 := { stood := { row := nameEncodesRow, standIns := [], harness := (true, "5b6d39105bbf5c5f60c913e0305eef32d7f23319d3b835128d6b372e9e87924f"), looks := true }, kinds := [], alts := [], laidByText := true, laidKinds := [.data, .pinned], laidTests := true, laidLooks := .later }
def NameEncodesCardSaid : Prop := Claim7.holds Tryd.pinned (.plain (OpenSpec.ofChange nameEncodesSpec)) nameEncodesCard

/-- THE TIED CARD OF 'chancerylaw12.NameOnce'. -/
def nameOnceCard : Claim7 := { stood := { row := nameOnceRow, standIns := [], harness := (true, "5b6d39105bbf5c5f60c913e0305eef32d7f23319d3b835128d6b372e9e87924f"), looks := true }, kinds := [], alts := [], laidByText := true, laidKinds := [.data, .pinned], laidTests := true, laidLooks := .later }
def NameOnceCardSaid : Prop := Claim7.holds Tryd.pinned (.plain (OpenSpec.ofChange nameOnceSpec)) nameOnceCard

/-- THE TIED CARD OF 'chancerylaw12.NameBack'. -/
def nameBackCard : Claim7 := { stood := { row := nameBackRow, standIns := [], harness := (true, "5b6d39105bbf5c5f60c913e0305eef32d7f23319d3b835128d6b372e9e87924f"), looks := true }, kinds := [], alts := [], laidByText := true, laidKinds := [.data, .pinned], laidTests := true, laidLooks := .later }
def NameBackCardSaid : Prop := Claim7.holds Tryd.pinned (.plain (OpenSpec.ofChange nameBackSpec)) nameBackCard

/-- THE SECOND FORM's CARD OF 'chancerylaw12.NameCompares'. -/
def nameComparesUptoCard : Claim7 := { stood := { row := nameComparesUptoRow, standIns := [], harness := (true, "5b6d39105bbf5c5f60c913e0305eef32d7f23319d3b835128d6b372e9e87924f"), looks := true }, kinds := [], alts := [], laidByText := true, laidKinds := [.data, .pinned], laidTests := true, laidLooks := .later }
def NameComparesUptoCardSaid : Prop := Claim7.holds Tryd.pinned (.plain (OpenSpec.upto nameComparesSpec)) nameComparesUptoCard

/-- THE SECOND FORM's CARD OF 'chancerylaw12.NameOrder'. -/
def nameOrderUptoCard : Claim7 := { stood := { row := nameOrderUptoRow, standIns := [], harness := (true, "5b6d39105bbf5c5f60c913e0305eef32d7f23319d3b835128d6b372e9e87924f"), looks := true }, kinds := [], alts := [], laidByText := true, laidKinds := [.data, .pinned], laidTests := true, laidLooks := .later }
def NameOrderUptoCardSaid : Prop := Claim7.holds Tryd.pinned (.plain (OpenSpec.upto nameOrderSpec)) nameOrderUptoCard

/-- THE SECOND FORM's CARD OF 'chancerylaw12.NameParses'. -/
def nameParsesUptoCard : Claim7 := { stood := { row := nameParsesUptoRow, standIns := [], harness := (true, "5b6d39105bbf5c5f60c913e0305eef32d7f23319d3b835128d6b372e9e87924f"), looks := true }, kinds := [], alts := [], laidByText := true, laidKinds := [.data, .pinned], laidTests := true, laidLooks := .later }
def NameParsesUptoCardSaid : Prop := Claim7.holds Tryd.pinned (.plain (OpenSpec.upto nameParsesSpec)) nameParsesUptoCard

/-- THE SECOND FORM's CARD OF 'chancerylaw12.NameDecodes'. -/
def nameDecodesUptoCard : Claim7 := { stood := { row := nameDecodesUptoRow, standIns := [], harness := (true, "5b6d39105bbf5c5f60c913e0305eef32d7f23319d3b835128d6b372e9e87924f"), looks := true }, kinds := [], alts := [], laidByText := true, laidKinds := [.data, .pinned], laidTests := true, laidLooks := .later }
def NameDecodesUptoCardSaid : Prop := Claim7.holds Tryd.pinned (.plain (OpenSpec.upto nameDecodesSpec)) nameDecodesUptoCard

/-- THE SECOND FORM's CARD OF 'chancerylaw12.NameEncodes'. -/
def nameEncodesUptoCard : Claim7 := { stood := { row := nameEncodesUptoRow, standIns := [], harness := (true, "5b6d39105bbf5c5f60c913e0305eef32d7f23319d3b835128d6b372e9e87924f"), looks := true }, kinds := [], alts := [], laidByText := true, laidKinds := [.data, .pinned], laidTests := true, laidLooks := .later }
def NameEncodesUptoCardSaid : Prop := Claim7.holds Tryd.pinned (.plain (OpenSpec.upto nameEncodesSpec)) nameEncodesUptoCard

/-- THE SECOND FORM's CARD OF 'chancerylaw12.NameOnce'. -/
def nameOnceUptoCard : Claim7 := { stood := { row := nameOnceUptoRow, standIns := [], harness := (true, "5b6d39105bbf5c5f60c913e0305eef32d7f23319d3b835128d6b372e9e87924f"), looks := true }, kinds := [], alts := [], laidByText := true, laidKinds := [.data, .pinned], laidTests := true, laidLooks := .later }
def NameOnceUptoCardSaid : Prop := Claim7.holds Tryd.pinned (.plain (OpenSpec.upto nameOnceSpec)) nameOnceUptoCard

/-- THE SECOND FORM's CARD OF 'chancerylaw12.NameBack'. -/
def nameBackUptoCard : Claim7 := { stood := { row := nameBackUptoRow, standIns := [], harness := (true, "5b6d39105bbf5c5f60c913e0305eef32d7f23319d3b835128d6b372e9e87924f"), looks := true }, kinds := [], alts := [], laidByText := true, laidKinds := [.data, .pinned], laidTests := true, laidLooks := .later }
def NameBackUptoCardSaid : Prop := Claim7.holds Tryd.pinned (.plain (OpenSpec.upto nameBackSpec)) nameBackUptoCard
end Rows
end Go.Proofs.YtcaekpbmmbfeiaaDoor
