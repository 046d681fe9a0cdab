/-
  DERIVED. GIVEN WITH THE SEED: THE CARDS: each row of YtlpbhgcndebkcaaGreatDoorRows.lean that lists a variable, with what it lists TIED to the program's text (the seventh form; the later family's looks); each row that meets fmt, with fmt's text TOLD by the authors' own Lean function (tested against real Go, not proved from fmt's source: count such statements apart). THE CARD IS WHAT COUNTS. Prove the row's statement (the work); the ties are given (YtlpbhgcndebkcaaGreatDoorTie.lean); close each card by the builder's one call (the guide's Derived/Test/ToyasCard.lean, 'card_holds'). Laid BY PROGRAM, IN A SANDBOX (cutbox-door.mjs). By AI agents, Wed Nov 11 2026. No macro, syntax, notation, axiom, sorry.
-/
import Derived.Test.YtlpbhgcndebkcaaGreatDoorRows
import GoSem.ClaimSeven
namespace Go.Proofs.YtlpbhgcndebkcaaGreatDoor
namespace Rows

/-- THE TIED CARD OF 'chancerylaw13.HostShows'. -/
def hostShowsCard : Claim7 := { stood := { row := hostShowsRow, standIns := [], harness := (true, "509a108405e4cdb3c2d142d95f19204c90a27d20063b6689d9aca2f64ece73a1"), looks := true }, kinds := [], alts := [], laidByText := true, laidKinds := [.data, .pinned], laidTests := true, laidLooks := .later }
def HostShowsCardSaid : Prop := Claim7.holds Tryz.pinned (.plain (OpenSpec.ofChange hostShowsSpec)) hostShowsCard

/-- THE TIED CARD OF 'chancerylaw13.HostParses'. -/
def hostParsesCard : Claim7 := { stood := { row := hostParsesRow, standIns := [], harness := (true, "509a108405e4cdb3c2d142d95f19204c90a27d20063b6689d9aca2f64ece73a1"), looks := true }, kinds := [], alts := [], laidByText := true, laidKinds := [.data, .pinned], laidTests := true, laidLooks := .later }
def HostParsesCardSaid : Prop := Claim7.holds Tryz.pinned (.plain (OpenSpec.ofChange hostParsesSpec)) hostParsesCard

/-- THE TIED CARD OF 'chancerylaw13.HostBack'. -/
def hostBackCard : Claim7 := { stood := { row := hostBackRow, standIns := [], harness := (true, "509a108405e4cdb3c2d142d95f19204c90a27d20063b6689d9aca2f64ece73a1"), looks := true }, kinds := [], alts := [], laidByText := true, laidKinds := [.data, .pinned], laidTests := true, laidLooks := .later }
def HostBackCardSaid : Prop := Claim7.holds Tryz.pinned (.plain (OpenSpec.ofChange hostBackSpec)) hostBackCard

/-- THE SECOND FORM's CARD OF 'chancerylaw13.HostShows'. -/
def hostShowsUptoCard : Claim7 := { stood := { row := hostShowsUptoRow, standIns := [], harness := (true, "509a108405e4cdb3c2d142d95f19204c90a27d20063b6689d9aca2f64ece73a1"), looks := true }, kinds := [], alts := [], laidByText := true, laidKinds := [.data, .pinned], laidTests := true, laidLooks := .later }
def HostShowsUptoCardSaid : Prop := Claim7.holds Tryz.pinned (.plain (OpenSpec.upto hostShowsSpec)) hostShowsUptoCard

/-- THE SECOND FORM's CARD OF 'chancerylaw13.HostParses'. -/
def hostParsesUptoCard : Claim7 := { stood := { row := hostParsesUptoRow, standIns := [], harness := (true, "509a108405e4cdb3c2d142d95f19204c90a27d20063b6689d9aca2f64ece73a1"), looks := true }, kinds := [], alts := [], laidByText := true, laidKinds := [.data, .pinned], laidTests := true, laidLooks := .later }
def HostParsesUptoCardSaid : Prop := Claim7.holds Tryz.pinned (.plain (OpenSpec.upto hostParsesSpec)) hostParsesUptoCard

/-- THE SECOND FORM's CARD OF 'chancerylaw13.HostBack'. -/
def hostBackUptoCard : Claim7 := { stood := { row := hostBackUptoRow, standIns := [], harness := (true, "509a108405e4cdb3c2d142d95f19204c90a27d20063b6689d9aca2f64ece73a1"), looks := true }, kinds := [], alts := [], laidByText := true, laidKinds := [.data, .pinned], laidTests := true, laidLooks := .later }
def HostBackUptoCardSaid : Prop := Claim7.holds Tryz.pinned (.plain (OpenSpec.upto hostBackSpec)) hostBackUptoCard
end Rows
end Go.Proofs.YtlpbhgcndebkcaaGreatDoor
