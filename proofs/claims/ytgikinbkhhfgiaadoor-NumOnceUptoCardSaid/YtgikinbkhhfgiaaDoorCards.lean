/-
  DERIVED. GIVEN WITH THE SEED: THE CARDS: each row of YtgikinbkhhfgiaaDoorRows.lean that lists a variable, with what it lists TIED to the program's text (the seventh form; the later family's looks); each row that meets fmt, with fmt's text TOLD by the authors' own Lean function (tested against real Go, not proved from fmt's source: count such statements apart). THE CARD IS WHAT COUNTS. Prove the row's statement (the work); the ties are given (YtgikinbkhhfgiaaDoorTie.lean); close each card by the builder's one call (the guide's Derived/Test/ToyasCard.lean, 'card_holds'). Laid BY PROGRAM, IN A SANDBOX (cutbox-door.mjs). By AI agents, Wed Nov 11 2026. No macro, syntax, notation, axiom, sorry.
-/
import Derived.Test.YtgikinbkhhfgiaaDoorRows
import GoSem.ClaimSeven
namespace Go.Proofs.YtgikinbkhhfgiaaDoor
namespace Rows

/-- THE TIED CARD OF 'chancerylaw02.NumNats'. -/
def numNatsCard : Claim7 := { stood := { row := numNatsRow, standIns := [], harness := (true, "5b396a2faeda1dd7309ed6c91878668dc77e87d6df32be58e4ba41272f9281f5"), looks := false }, kinds := [], alts := [], laidByText := true, laidKinds := [.data, .pinned], laidTests := true, laidLooks := .later }
def NumNatsCardSaid : Prop := Claim7.holds Tryd.pinned (.plain (OpenSpec.ofChange numNatsSpec)) numNatsCard

/-- THE TIED CARD OF 'chancerylaw02.NumReads'. -/
def numReadsCard : Claim7 := { stood := { row := numReadsRow, standIns := [], harness := (true, "5b396a2faeda1dd7309ed6c91878668dc77e87d6df32be58e4ba41272f9281f5"), looks := false }, kinds := [], alts := [], laidByText := true, laidKinds := [.data, .pinned], laidTests := true, laidLooks := .later }
def NumReadsCardSaid : Prop := Claim7.holds Tryd.pinned (.plain (OpenSpec.ofChange numReadsSpec)) numReadsCard

/-- THE TIED CARD OF 'chancerylaw02.NumBack'. -/
def numBackCard : Claim7 := { stood := { row := numBackRow, standIns := [], harness := (true, "5b396a2faeda1dd7309ed6c91878668dc77e87d6df32be58e4ba41272f9281f5"), looks := false }, kinds := [], alts := [], laidByText := true, laidKinds := [.data, .pinned], laidTests := true, laidLooks := .later }
def NumBackCardSaid : Prop := Claim7.holds Tryd.pinned (.plain (OpenSpec.ofChange numBackSpec)) numBackCard

/-- THE TIED CARD OF 'chancerylaw02.NumOnce'. -/
def numOnceCard : Claim7 := { stood := { row := numOnceRow, standIns := [], harness := (true, "5b396a2faeda1dd7309ed6c91878668dc77e87d6df32be58e4ba41272f9281f5"), looks := false }, kinds := [], alts := [], laidByText := true, laidKinds := [.data, .pinned], laidTests := true, laidLooks := .later }
def NumOnceCardSaid : Prop := Claim7.holds Tryd.pinned (.plain (OpenSpec.ofChange numOnceSpec)) numOnceCard

/-- THE SECOND FORM's CARD OF 'chancerylaw02.NumNats'. -/
def numNatsUptoCard : Claim7 := { stood := { row := numNatsUptoRow, standIns := [], harness := (true, "5b396a2faeda1dd7309ed6c91878668dc77e87d6df32be58e4ba41272f9281f5"), looks := false }, kinds := [], alts := [], laidByText := true, laidKinds := [.data, .pinned], laidTests := true, laidLooks := .later }
def NumNatsUptoCardSaid : Prop := Claim7.holds Tryd.pinned (.plain (OpenSpec.upto numNatsSpec)) numNatsUptoCard

/-- THE SECOND FORM's CARD OF 'chancerylaw02.NumReads'. -/
def numReadsUptoCard : Claim7 := { stood := { row := numReadsUptoRow, standIns := [], harness := (true, "5b396a2faeda1dd7309ed6c91878668dc77e87d6df32be58e4ba41272f9281f5"), looks := false }, kinds := [], alts := [], laidByText := true, laidKinds := [.data, .pinned], laidTests := true, laidLooks := .later }
def NumReadsUptoCardSaid : Prop := Claim7.holds Tryd.pinned (.plain (OpenSpec.upto numReadsSpec)) numReadsUptoCard

/-- THE SECOND FORM's CARD OF 'chancerylaw02.NumBack'. -/
def numBackUptoCard : Claim7 := { stood := { row := numBackUptoRow, standIns := [], harness := (true, "5b396a2faeda1dd7309ed6c91878668dc77e87d6df32be58e4ba41272f9281f5"), looks := false }, kinds := [], alts := [], laidByText := true, laidKinds := [.data, .pinned], laidTests := true, laidLooks := .later }
def NumBackUptoCardSaid : Prop := Claim7.holds Tryd.pinned (.plain (OpenSpec.upto numBackSpec)) numBackUptoCard

/-- THE SECOND FORM's CARD OF 'chancerylaw02.NumOnce'. -/
def numOnceUptoCard : Claim7 := { stood := { row := numOnceUptoRow, standIns := [], harness := (true, "5b396a2faeda1dd7309ed6c91878668dc77e87d6df32be58e4ba41272f9281f5"), looks := false }, kinds := [], alts := [], laidByText := true, laidKinds := [.data, .pinned], laidTests := true, laidLooks := .later }
def NumOnceUptoCardSaid : Prop := Claim7.holds Tryd.pinned (.plain (OpenSpec.upto numOnceSpec)) numOnceUptoCard
end Rows
end Go.Proofs.YtgikinbkhhfgiaaDoor
