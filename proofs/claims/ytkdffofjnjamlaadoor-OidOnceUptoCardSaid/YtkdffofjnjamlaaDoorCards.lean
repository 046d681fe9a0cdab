/-
  DERIVED. GIVEN WITH THE SEED: THE CARDS: each row of YtkdffofjnjamlaaDoorRows.lean that lists a variable, with what it lists TIED to the program's text (the seventh form; the later family's looks); each row that meets fmt, with fmt's text TOLD by the authors' own Lean function (tested against real Go, not proved from fmt's source: count such statements apart). THE CARD IS WHAT COUNTS. Prove the row's statement (the work); the ties are given (YtkdffofjnjamlaaDoorTie.lean); close each card by the builder's one call (the guide's Derived/Test/ToyasCard.lean, 'card_holds'). Laid BY PROGRAM, IN A SANDBOX (cutbox-door.mjs). By AI agents, Wed Nov 11 2026. No macro, syntax, notation, axiom, sorry.
-/
import Derived.Test.YtkdffofjnjamlaaDoorRows
import GoSem.ClaimSeven
namespace Go.Proofs.YtkdffofjnjamlaaDoor
namespace Rows

/-- THE TIED CARD OF 'chancerylaw03.OidEncodes'. -/
def oidEncodesCard : Claim7 := { stood := { row := oidEncodesRow, standIns := [], harness := (true, "daca9a4716d5be8a01146777ff2f1111e1af6e681f06569c8af6fbfdf96279b7"), looks := true }, kinds := [], alts := [], laidByText := true, laidKinds := [.data, .data, .data], laidTests := true, laidLooks := .later }
def OidEncodesCardSaid : Prop := Claim7.holds Tryd.pinned (.plain (OpenSpec.ofChange oidEncodesSpec)) oidEncodesCard

/-- THE TIED CARD OF 'chancerylaw03.OidParses'. -/
def oidParsesCard : Claim7 := { stood := { row := oidParsesRow, standIns := [], harness := (true, "daca9a4716d5be8a01146777ff2f1111e1af6e681f06569c8af6fbfdf96279b7"), looks := true }, kinds := [], alts := [], laidByText := true, laidKinds := [.data, .data, .data, .data, .sentinel, .sentinel, .pinned], laidTests := true, laidLooks := .later }
def OidParsesCardSaid : Prop := Claim7.holds Tryd.pinned (.plain (OpenSpec.ofChange oidParsesSpec)) oidParsesCard

/-- THE TIED CARD OF 'chancerylaw03.OidOnce'. -/
def oidOnceCard : Claim7 := { stood := { row := oidOnceRow, standIns := [], harness := (true, "daca9a4716d5be8a01146777ff2f1111e1af6e681f06569c8af6fbfdf96279b7"), looks := true }, kinds := [], alts := [], laidByText := true, laidKinds := [.data, .data, .data, .data, .sentinel, .sentinel, .pinned], laidTests := true, laidLooks := .later }
def OidOnceCardSaid : Prop := Claim7.holds Tryd.pinned (.plain (OpenSpec.ofChange oidOnceSpec)) oidOnceCard

/-- THE TIED CARD OF 'chancerylaw03.OidBack'. -/
def oidBackCard : Claim7 := { stood := { row := oidBackRow, standIns := [], harness := (true, "daca9a4716d5be8a01146777ff2f1111e1af6e681f06569c8af6fbfdf96279b7"), looks := true }, kinds := [], alts := [], laidByText := true, laidKinds := [.data, .data, .data, .data, .sentinel, .sentinel, .pinned], laidTests := true, laidLooks := .later }
def OidBackCardSaid : Prop := Claim7.holds Tryd.pinned (.plain (OpenSpec.ofChange oidBackSpec)) oidBackCard

/-- THE SECOND FORM's CARD OF 'chancerylaw03.OidEncodes'. -/
def oidEncodesUptoCard : Claim7 := { stood := { row := oidEncodesUptoRow, standIns := [], harness := (true, "daca9a4716d5be8a01146777ff2f1111e1af6e681f06569c8af6fbfdf96279b7"), looks := true }, kinds := [], alts := [], laidByText := true, laidKinds := [.data, .data, .data], laidTests := true, laidLooks := .later }
def OidEncodesUptoCardSaid : Prop := Claim7.holds Tryd.pinned (.plain (OpenSpec.upto oidEncodesSpec)) oidEncodesUptoCard

/-- THE SECOND FORM's CARD OF 'chancerylaw03.OidParses'. -/
def oidParsesUptoCard : Claim7 := { stood := { row := oidParsesUptoRow, standIns := [], harness := (true, "daca9a4716d5be8a01146777ff2f1111e1af6e681f06569c8af6fbfdf96279b7"), looks := true }, kinds := [], alts := [], laidByText := true, laidKinds := [.data, .data, .data, .data, .sentinel, .sentinel, .pinned], laidTests := true, laidLooks := .later }
def OidParsesUptoCardSaid : Prop := Claim7.holds Tryd.pinned (.plain (OpenSpec.upto oidParsesSpec)) oidParsesUptoCard

/-- THE SECOND FORM's CARD OF 'chancerylaw03.OidOnce'. -/
def oidOnceUptoCard : Claim7 := { stood := { row := oidOnceUptoRow, standIns := [], harness := (true, "daca9a4716d5be8a01146777ff2f1111e1af6e681f06569c8af6fbfdf96279b7"), looks := true }, kinds := [], alts := [], laidByText := true, laidKinds := [.data, .data, .data, .data, .sentinel, .sentinel, .pinned], laidTests := true, laidLooks := .later }
def OidOnceUptoCardSaid : Prop := Claim7.holds Tryd.pinned (.plain (OpenSpec.upto oidOnceSpec)) oidOnceUptoCard

/-- THE SECOND FORM's CARD OF 'chancerylaw03.OidBack'. -/
def oidBackUptoCard : Claim7 := { stood := { row := oidBackUptoRow, standIns := [], harness := (true, "daca9a4716d5be8a01146777ff2f1111e1af6e681f06569c8af6fbfdf96279b7"), looks := true }, kinds := [], alts := [], laidByText := true, laidKinds := [.data, .data, .data, .data, .sentinel, .sentinel, .pinned], laidTests := true, laidLooks := .later }
def OidBackUptoCardSaid : Prop := Claim7.holds Tryd.pinned (.plain (OpenSpec.upto oidBackSpec)) oidBackUptoCard
end Rows
end Go.Proofs.YtkdffofjnjamlaaDoor
