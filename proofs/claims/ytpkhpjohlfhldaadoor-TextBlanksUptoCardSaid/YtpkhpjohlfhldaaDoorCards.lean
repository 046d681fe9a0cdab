/-
  DERIVED. GIVEN WITH THE SEED: THE CARDS: each row of YtpkhpjohlfhldaaDoorRows.lean that lists a variable, with what it lists TIED to the program's text (the seventh form; the later family's looks); each row that meets fmt, with fmt's text TOLD by the authors' own Lean function (tested against real Go, not proved from fmt's source: count such statements apart). THE CARD IS WHAT COUNTS. Prove the row's statement (the work); the ties are given (YtpkhpjohlfhldaaDoorTie.lean); close each card by the builder's one call (the guide's Derived/Test/ToyasCard.lean, 'card_holds'). Laid BY PROGRAM, IN A SANDBOX (cutbox-door.mjs). By AI agents, Wed Nov 11 2026. No macro, syntax, notation, axiom, sorry.
-/
import Derived.Test.YtpkhpjohlfhldaaDoorRows
import GoSem.ClaimSeven
namespace Go.Proofs.YtpkhpjohlfhldaaDoor
namespace Rows

/-- THE TIED CARD OF 'chancerylaw05.TextValids'. -/
def textValidsCard : Claim7 := { stood := { row := textValidsRow, standIns := [], harness := (true, "479c9ce7471a5977d0a21780762223930ed50c4ce6207364680e7e7e9867ec82"), looks := false }, kinds := [], alts := [], laidByText := true, laidKinds := [.data, .pinned], laidTests := true, laidLooks := .later }
def TextValidsCardSaid : Prop := Claim7.holds Tryd.pinned (.plain (OpenSpec.ofChange textValidsSpec)) textValidsCard

/-- THE TIED CARD OF 'chancerylaw05.TextWords'. -/
def textWordsCard : Claim7 := { stood := { row := textWordsRow, standIns := [], harness := (true, "479c9ce7471a5977d0a21780762223930ed50c4ce6207364680e7e7e9867ec82"), looks := false }, kinds := [], alts := [], laidByText := true, laidKinds := [.data, .pinned], laidTests := true, laidLooks := .later }
def TextWordsCardSaid : Prop := Claim7.holds Tryd.pinned (.plain (OpenSpec.ofChange textWordsSpec)) textWordsCard

/-- THE TIED CARD OF 'chancerylaw05.TextFolds'. -/
def textFoldsCard : Claim7 := { stood := { row := textFoldsRow, standIns := [], harness := (true, "479c9ce7471a5977d0a21780762223930ed50c4ce6207364680e7e7e9867ec82"), looks := false }, kinds := [], alts := [], laidByText := true, laidKinds := [.data, .pinned], laidTests := true, laidLooks := .later }
def TextFoldsCardSaid : Prop := Claim7.holds Tryd.pinned (.plain (OpenSpec.ofChange textFoldsSpec)) textFoldsCard

/-- THE TIED CARD OF 'chancerylaw05.TextTwice'. -/
def textTwiceCard : Claim7 := { stood := { row := textTwiceRow, standIns := [], harness := (true, "479c9ce7471a5977d0a21780762223930ed50c4ce6207364680e7e7e9867ec82"), looks := false }, kinds := [], alts := [], laidByText := true, laidKinds := [.data, .pinned], laidTests := true, laidLooks := .later }
def TextTwiceCardSaid : Prop := Claim7.holds Tryd.pinned (.plain (OpenSpec.ofChange textTwiceSpec)) textTwiceCard

/-- THE TIED CARD OF 'chancerylaw05.TextBlanks'. -/
def textBlanksCard : Claim7 := { stood := { row := textBlanksRow, standIns := [], harness := (true, "479c9ce7471a5977d0a21780762223930ed50c4ce6207364680e7e7e9867ec82"), looks := false }, kinds := [], alts := [], laidByText := true, laidKinds := [.data, .pinned], laidTests := true, laidLooks := .later }
def TextBlanksCardSaid : Prop := Claim7.holds Tryd.pinned (.plain (OpenSpec.ofChange textBlanksSpec)) textBlanksCard

/-- THE TIED CARD OF 'chancerylaw05.TextMays'. -/
def textMaysCard : Claim7 := { stood := { row := textMaysRow, standIns := [], harness := (true, "479c9ce7471a5977d0a21780762223930ed50c4ce6207364680e7e7e9867ec82"), looks := false }, kinds := [], alts := [], laidByText := true, laidKinds := [.data, .pinned], laidTests := true, laidLooks := .later }
def TextMaysCardSaid : Prop := Claim7.holds Tryd.pinned (.plain (OpenSpec.ofChange textMaysSpec)) textMaysCard

/-- THE TIED CARD OF 'chancerylaw05.TextNarrow'. -/
def textNarrowCard : Claim7 := { stood := { row := textNarrowRow, standIns := [], harness := (true, "479c9ce7471a5977d0a21780762223930ed50c4ce6207364680e7e7e9867ec82"), looks := false }, kinds := [], alts := [], laidByText := true, laidKinds := [.data, .pinned], laidTests := true, laidLooks := .later }
def TextNarrowCardSaid : Prop := Claim7.holds Tryd.pinned (.plain (OpenSpec.ofChange textNarrowSpec)) textNarrowCard

/-- THE SECOND FORM's CARD OF 'chancerylaw05.TextValids'. -/
def textValidsUptoCard : Claim7 := { stood := { row := textValidsUptoRow, standIns := [], harness := (true, "479c9ce7471a5977d0a21780762223930ed50c4ce6207364680e7e7e9867ec82"), looks := false }, kinds := [], alts := [], laidByText := true, laidKinds := [.data, .pinned], laidTests := true, laidLooks := .later }
def TextValidsUptoCardSaid : Prop := Claim7.holds Tryd.pinned (.plain (OpenSpec.upto textValidsSpec)) textValidsUptoCard

/-- THE SECOND FORM's CARD OF 'chancerylaw05.TextWords'. -/
def textWordsUptoCard : Claim7 := { stood := { row := textWordsUptoRow, standIns := [], harness := (true, "479c9ce7471a5977d0a21780762223930ed50c4ce6207364680e7e7e9867ec82"), looks := false }, kinds := [], alts := [], laidByText := true, laidKinds := [.data, .pinned], laidTests := true, laidLooks := .later }
def TextWordsUptoCardSaid : Prop := Claim7.holds Tryd.pinned (.plain (OpenSpec.upto textWordsSpec)) textWordsUptoCard

/-- THE SECOND FORM's CARD OF 'chancerylaw05.TextFolds'. -/
def textFoldsUptoCard : Claim7 := { stood := { row := textFoldsUptoRow, standIns := [], harness := (true, "479c9ce7471a5977d0a21780762223930ed50c4ce6207364680e7e7e9867ec82"), looks := false }, kinds := [], alts := [], laidByText := true, laidKinds := [.data, .pinned], laidTests := true, laidLooks := .later }
def TextFoldsUptoCardSaid : Prop := Claim7.holds Tryd.pinned (.plain (OpenSpec.upto textFoldsSpec)) textFoldsUptoCard

/-- THE SECOND FORM's CARD OF 'chancerylaw05.TextTwice'. -/
def textTwiceUptoCard : Claim7 := { stood := { row := textTwiceUptoRow, standIns := [], harness := (true, "479c9ce7471a5977d0a21780762223930ed50c4ce6207364680e7e7e9867ec82"), looks := false }, kinds := [], alts := [], laidByText := true, laidKinds := [.data, .pinned], laidTests := true, laidLooks := .later }
def TextTwiceUptoCardSaid : Prop := Claim7.holds Tryd.pinned (.plain (OpenSpec.upto textTwiceSpec)) textTwiceUptoCard

/-- THE SECOND FORM's CARD OF 'chancerylaw05.TextBlanks'. -/
def textBlanksUptoCard : Claim7 := { stood := { row := textBlanksUptoRow, standIns := [], harness := (true, "479c9ce7471a5977d0a21780762223930ed50c4ce6207364680e7e7e9867ec82"), looks := false }, kinds := [], alts := [], laidByText := true, laidKinds := [.data, .pinned], laidTests := true, laidLooks := .later }
def TextBlanksUptoCardSaid : Prop := Claim7.holds Tryd.pinned (.plain (OpenSpec.upto textBlanksSpec)) textBlanksUptoCard

/-- THE SECOND FORM's CARD OF 'chancerylaw05.TextMays'. -/
def textMaysUptoCard : Claim7 := { stood := { row := textMaysUptoRow, standIns := [], harness := (true, "479c9ce7471a5977d0a21780762223930ed50c4ce6207364680e7e7e9867ec82"), looks := false }, kinds := [], alts := [], laidByText := true, laidKinds := [.data, .pinned], laidTests := true, laidLooks := .later }
def TextMaysUptoCardSaid : Prop := Claim7.holds Tryd.pinned (.plain (OpenSpec.upto textMaysSpec)) textMaysUptoCard

/-- THE SECOND FORM's CARD OF 'chancerylaw05.TextNarrow'. -/
def textNarrowUptoCard : Claim7 := { stood := { row := textNarrowUptoRow, standIns := [], harness := (true, "479c9ce7471a5977d0a21780762223930ed50c4ce6207364680e7e7e9867ec82"), looks := false }, kinds := [], alts := [], laidByText := true, laidKinds := [.data, .pinned], laidTests := true, laidLooks := .later }
def TextNarrowUptoCardSaid : Prop := Claim7.holds Tryd.pinned (.plain (OpenSpec.upto textNarrowSpec)) textNarrowUptoCard
end Rows
end Go.Proofs.YtpkhpjohlfhldaaDoor
