/- Texts of a verified walk, led together: Within3A, Within3W, Law14gA, Law14gW, Glok12A, Glok12W. -/
import Derived.Test.YtgnlcpoeepfdoaaGreatDoorZW10
import Derived.Test.YtgnlcpoeepfdoaaGreatDoorZV16
import Derived.Test.YtgnlcpoeepfdoaaGreatDoorRows
set_option linter.unusedVariables false
set_option linter.unusedSimpArgs false
section
namespace Go.Proofs.YtgnlcpoeepfdoaaGreatDoor
open Go Go.Vc Go.Pl Go.Proofs
def lenT (l : List (Int × List Int)) : Prop := l.length ≤ 100000000 ∧ ∀ t ∈ l, t.2.length ≤ 100000000
def c_within_Check : Con := { args := [.dat (.sl GT), .dat (.sl GT), .dat GT], res := [.dat I64, .dat I64], pre := fun x => lenT x.1 ∧ lenT x.2.1 ∧ x.2.2.1.2.length ≤ 100000000, post := fun x y => (y.1, y.2.1) = checkT x.1 x.2.1 x.2.2.1 }
def c_within_Row : Con := { args := [.dat (.sl GT), .dat (.sl GT), .dat (.sl GT)], res := [.dat I64, .dat I64, .dat I64], pre := fun x => lenT x.1 ∧ lenT x.2.1 ∧ lenT x.2.2.1, post := fun x y => (y.1, y.2.1, y.2.2.1) = rowT x.1 x.2.1 x.2.2.1 0 }
def c_r14_Check : Con := { args := [.dat (.sl GT), .dat (.sl GT), .dat GT], res := [.dat I64, .dat I64], pre := fun x => lenT x.1 ∧ lenT x.2.1 ∧ x.2.2.1.2.length ≤ 100000000, post := fun x y => (y.1, y.2.1) = checkT x.1 x.2.1 x.2.2.1 }
def c_r14_Row : Con := { args := [.dat (.sl GT), .dat (.sl GT), .dat (.sl GT)], res := [.dat I64, .dat I64, .dat I64], pre := fun x => lenT x.1 ∧ lenT x.2.1 ∧ lenT x.2.2.1, post := fun x y => (y.1, y.2.1, y.2.2.1) = rowT x.1 x.2.1 x.2.2.1 0 }
end Go.Proofs.YtgnlcpoeepfdoaaGreatDoor
end
section
namespace Go.Proofs.YtgnlcpoeepfdoaaGreatDoor
open Go Go.Vc Go.Pl Go.Proofs
set_option linter.unusedVariables false
set_option linter.unusedSimpArgs false
set_option maxHeartbeats 2000000
theorem lenT_gd {l : List (Int × List Int)} (h : ∀ t ∈ l, t.2.length ≤ 100000000) (i : Nat) : (l.getD i (0, [])).2.length ≤ 100000000 := by
  by_cases hi : i < l.length
  . exact h _ (gd_mem hi)
  . rw [List.getD_eq_getElem?_getD, List.getElem?_eq_none (by omega)]
    decide
abbrev q41 := (List (Int × List Int) × List (Int × List Int) × (Int × List Int) × Unit)
abbrev q42 := (Int × Int × Int × Unit -> (Int × List Int × Unit) × Unit -> Prop)
abbrev q43 := (Int × Int × Int × Unit -> (Int × List Int × Unit) × Unit -> Nat)
abbrev q44 := ((Int × List Int × Unit) × Unit)
abbrev q45 := (Int × Bool × Int × Int × Unit -> (Int × List Int × Unit) × Unit -> Prop)
abbrev q46 := (Int × Bool × Int × Int × Unit -> (Int × List Int × Unit) × Unit -> Nat)
abbrev q47 := (Int × Bool × Bool × Unit -> (Int × List Int × Unit) × Unit -> Prop)
abbrev q48 := (Int × Bool × Bool × Unit -> (Int × List Int × Unit) × Unit -> Nat)
abbrev q49 := (List (Int × List Int) × List (Int × List Int) × List (Int × List Int) × Unit)
abbrev q50 := (Int × Int × Int × Unit -> Unit × Unit -> Prop)
abbrev q51 := (Int × Int × Int × Unit -> Unit × Unit -> Nat)
abbrev q418 (p0 : q41) := (Kd.wf q508 p0.1 /\ Kd.wf q508 p0.2.1 /\ Kd.wf q489 p0.2.2.1 /\ True)
abbrev q551 := (Kd.dft (Kd.sl q572))
abbrev q419 (p0 : q41) (p1 : q27) := (List.getD (List.getD [p0.1, p0.2.1] q477 q551) (Int.toNat p1.1) q470)
abbrev q420 (p0 : q41) (p1 : Int × Bool × Int × Int × Unit) := (List.getD (List.getD [p0.1, p0.2.1] q556 q551) (Int.toNat p1.1) q470)
abbrev q421 (p0 : q41) (p1 : q27) (p2 : q44) := (List.length (List.getD p0.2.1 (Int.toNat p1.1) q470).2 <= q514 /\ List.length p2.1.2.1 <= q514)
abbrev q422 (p0 : q41) (p1 : q36) (p2 : q44) := (List.length (List.getD p0.1 (Int.toNat p1.1) q470).2 <= q514 /\ List.length p2.1.2.1 <= q514)
abbrev q423 (p0 : q36) (p1 : q41) := ((bif p0.2.2.1 then !p0.2.1 else false) = true -> (q452, (141 : Int)) = checkT p1.1 p1.2.1 p1.2.2.1)
abbrev q424 (p0 : q41) := (lnZ (List.getD [p0.1, p0.2.1] q477 q551))
abbrev q425 (p0 : q41) := (lnZ (List.getD [p0.1, p0.2.1] q556 q551))
abbrev q426 (p0 : q41) := (lnZ (List.getD [p0.1, p0.2.1] (2 : Nat) q551))
abbrev q427 (p0 : q41) (p1 : q36) (p2 : q44) := ((List.getD p0.1 (Int.toNat p1.1) q470).1 = p2.1.1)
abbrev q428 (p0 : q27) (p1 : q41) := (decide (p0.1 < (lnZ p1.2.1)) = false -> (q452, q452) = checkT p1.1 p1.2.1 p1.2.2.1)
abbrev q429 (p0 : q36) := (p0.2.2.1 = false -> (p0.2.2.1 == false) = true /\ (p0.2.2.1 == false) = true /\ True)
abbrev q430 (p0 : q41) (p1 : q27) := (List.getD p0.2.1 (Int.toNat p1.1) q470)
abbrev q431 (p0 : q41) (p1 : q36) := (List.getD p0.1 (Int.toNat p1.1) q470)
abbrev q432 (p0 : q4) (p1 : q27) (p2 : q41) := (p0.1 = true -> (p1.1, (142 : Int)) = checkT p2.1 p2.2.1 p2.2.2.1)
abbrev q433 (p0 : q36) := (p0.2.2.1 = false -> (p0.2.2.1 == false) = true /\ True)
abbrev q434 := (Kd.dft q508)
abbrev q435 (p0 : q44) := (wiZ p0.1.1 /\ wsZ p0.1.2.1 /\ True)
abbrev q436 (p0 : q27) := (p0.1 + q491)
abbrev q437 (p0 : q49) (p1 : q24) := ((List.length p0.1 <= q514 /\ ∀ (t : q21), t ∈ p0.1 -> List.length t.2 <= q514) /\ (List.length p0.2.1 <= q514 /\ ∀ (t : q21), t ∈ p0.2.1 -> List.length
  t.2 <= q514) /\ List.length (List.getD p0.2.2.1 (Int.toNat p1.1) q470).2 <= q514)
abbrev q438 (p0 : q49) := (Kd.wf q508 p0.1 /\ Kd.wf q508 p0.2.1 /\ Kd.wf q508 p0.2.2.1 /\ True)
abbrev q439 (p0 : q49) (p1 : q24) := (List.getD p0.2.2.1 (Int.toNat p1.1) q470)
abbrev q440 (p0 : q41) (p1 : q27) := (List.length (List.getD p0.1 (Int.toNat p1.1) q470).2 <= q514 /\ List.length p0.2.2.1.2 <= q514)
abbrev q441 (p0 : q41) (p1 : q27) := (List.getD p0.1 (Int.toNat p1.1) q470)
def t21 : Prop :=
  ∀ (x : q41), (q418 x) -> (List.length x.1 <= q153 /\ ∀ (t : q21), t ∈ x.1 -> List.length t.2 <= q153) /\ (List.length x.2.1 <= q153 /\ ∀ (t : q21), t ∈ x.2.1 -> List.length t.2 <= q153) /\
  List.length x.2.2.1.2 <= q153 -> List.length [SV.dat q183 x.2.2.1.1, SV.dat Kd.str x.2.2.1.2] <= q89 /\ List.length x.2.2.1.2 <= q153 /\ (∀ (y : q4), (q67 y) -> y.1 = mayG x.2.2.1.1
  x.2.2.1.2 -> ((!y.1) = true -> (q56, (130 : Int)) = checkT x.1 x.2.1 x.2.2.1) /\ ((!y.1) = false -> (decide (q56 < q94) = true -> (q56 <= q56 /\ q56 < (↑q93 : Int)) /\ ∃ (I : q42), ∃ (μ :
  q43), ((q424 x) = (q424 x) /\ List.getD [x.1, x.2.1] q91 q434 = List.getD [x.1, x.2.1] q91 q434 /\ List.getD [x.1, x.2.1] q91 q434 = List.getD [x.1, x.2.1] q91 q434 /\ q56 = q56 /\
  Value.bool true = Value.bool true /\ q56 = q56 /\ [x.1, x.2.1] = [x.1, x.2.1] /\ Value.bool false = Value.bool false /\ x.1 = x.1 /\ x.2.1 = x.2.1 /\ x.2.2.1 = x.2.2.1 /\ I (q56, q56, q56,
  ()) ((x.2.2.1.1, x.2.2.1.2, ()), ())) /\ ∀ (y : q27) (z : q44), (q248 y) -> (q435 z) /\ True -> I y z -> (decide (y.1 < (q424 x)) = true -> (q56 <= y.1 /\ y.1 < (q424 x)) /\ q93 <= q89 /\
  List.length (q419 x y).2 <= q153 /\ (∀ (y_1 : q4), (q67 y_1) -> y_1.1 = mayT (q419 x y).1 (q419 x y).2 -> ((!y_1.1) = true -> (wrZ (y.1 + wrZ (q56 * (lnZ x.1))), (140 : Int)) = checkT x.1
  x.2.1 x.2.2.1) /\ ((!y_1.1) = false -> (q424 x) = (q424 x) /\ List.getD [x.1, x.2.1] q91 q434 = List.getD [x.1, x.2.1] q91 q434 /\ List.getD [x.1, x.2.1] q91 q434 = List.getD [x.1, x.2.1]
  q91 q434 /\ q56 = q56 /\ Value.bool true = Value.bool true /\ q56 = q56 /\ [x.1, x.2.1] = [x.1, x.2.1] /\ Value.bool false = Value.bool false /\ x.1 = x.1 /\ x.2.1 = x.2.1 /\ x.2.2.1 =
  x.2.2.1 /\ I (wrZ (q436 y), y.2.1, y.2.2.1, ()) ((z.1.1, z.1.2.1, ()), ()) /\ μ (wrZ (q436 y), y.2.1, y.2.2.1, ()) ((z.1.1, z.1.2.1, ()), ()) < μ y z)) /\ True) /\ (decide (y.1 < (q424 x))
  = false -> (decide (wrZ q389 < q94) = true -> (q56 <= wrZ q389 /\ wrZ q389 < (↑q93 : Int)) /\ ∃ (I : q45), ∃ (μ : q46), ((q425 x) = (q425 x) /\ List.getD [x.1, x.2.1] q59 q434 = List.getD
  [x.1, x.2.1] q59 q434 /\ List.getD [x.1, x.2.1] q59 q434 = List.getD [x.1, x.2.1] q59 q434 /\ wrZ q389 = wrZ q389 /\ Value.bool true = Value.bool true /\ wrZ q389 = wrZ q389 /\ [x.1, x.2.1]
  = [x.1, x.2.1] /\ Value.bool false = Value.bool false /\ x.1 = x.1 /\ x.2.1 = x.2.1 /\ x.2.2.1 = x.2.2.1 /\ I (q56, false, y.2.1, y.2.2.1, ()) ((z.1.1, z.1.2.1, ()), ())) /\ ∀ (y : Int ×
  Bool × Int × Int × Unit) (z : q44), (wiZ y.1 /\ wbZ y.2.1 /\ wiZ y.2.2.1 /\ wiZ y.2.2.2.1 /\ True) -> (q435 z) /\ True -> I y z -> (decide (y.1 < (q425 x)) = true -> (q56 <= y.1 /\ y.1 <
  (q425 x)) /\ q93 <= q89 /\ List.length (q420 x y).2 <= q153 /\ (∀ (y_1 : q4), (q67 y_1) -> y_1.1 = mayT (q420 x y).1 (q420 x y).2 -> ((!y_1.1) = true -> (wrZ (y.1 + wrZ (wrZ q389 * (lnZ
  x.1))), (140 : Int)) = checkT x.1 x.2.1 x.2.2.1) /\ ((!y_1.1) = false -> (q425 x) = (q425 x) /\ List.getD [x.1, x.2.1] q59 q434 = List.getD [x.1, x.2.1] q59 q434 /\ List.getD [x.1, x.2.1]
  q59 q434 = List.getD [x.1, x.2.1] q59 q434 /\ wrZ q389 = wrZ q389 /\ Value.bool true = Value.bool true /\ wrZ q389 = wrZ q389 /\ [x.1, x.2.1] = [x.1, x.2.1] /\ Value.bool false = Value.bool
  false /\ x.1 = x.1 /\ x.2.1 = x.2.1 /\ x.2.2.1 = x.2.2.1 /\ I (wrZ (y.1 + q92), true, y.2.2.1, y.2.2.2.1, ()) ((z.1.1, z.1.2.1, ()), ()) /\ μ (wrZ (y.1 + q92), true, y.2.2.1, y.2.2.2.1, ())
  ((z.1.1, z.1.2.1, ()), ()) < μ y z)) /\ True) /\ (decide (y.1 < (q425 x)) = false -> (decide (wrZ q388 < q94) = true -> (q56 <= wrZ q388 /\ wrZ q388 < (↑q93 : Int)) /\ ∃ (I : q45), ∃ (μ :
  q46), ((q426 x) = (q426 x) /\ List.getD [x.1, x.2.1] q93 q434 = List.getD [x.1, x.2.1] q93 q434 /\ List.getD [x.1, x.2.1] q93 q434 = List.getD [x.1, x.2.1] q93 q434 /\ wrZ q388 = wrZ q388
  /\ Value.bool true = Value.bool true /\ wrZ q388 = wrZ q388 /\ [x.1, x.2.1] = [x.1, x.2.1] /\ Value.bool false = Value.bool false /\ x.1 = x.1 /\ x.2.1 = x.2.1 /\ x.2.2.1 = x.2.2.1 /\ I
  (q56, false, y.2.2.1, y.2.2.2.1, ()) ((z.1.1, z.1.2.1, ()), ())) /\ ∀ (y : Int × Bool × Int × Int × Unit) (z : q44), (wiZ y.1 /\ wbZ y.2.1 /\ wiZ y.2.2.1 /\ wiZ y.2.2.2.1 /\ True) -> (q435
  z) /\ True -> I y z -> (decide (y.1 < (q426 x)) = true -> (q56 <= y.1 /\ y.1 < (q426 x)) /\ q93 <= q89 /\ q91 <= q153 /\ (∀ (y_1 : q4), (q67 y_1) -> y_1.1 = mayT q56 [] -> ((!y_1.1) = true
  -> (wrZ (y.1 + wrZ (wrZ q388 * (lnZ x.1))), (140 : Int)) = checkT x.1 x.2.1 x.2.2.1) /\ ((!y_1.1) = false -> (q426 x) = (q426 x) /\ List.getD [x.1, x.2.1] q93 q434 = List.getD [x.1, x.2.1]
  q93 q434 /\ List.getD [x.1, x.2.1] q93 q434 = List.getD [x.1, x.2.1] q93 q434 /\ wrZ q388 = wrZ q388 /\ Value.bool true = Value.bool true /\ wrZ q388 = wrZ q388 /\ [x.1, x.2.1] = [x.1,
  x.2.1] /\ Value.bool false = Value.bool false /\ x.1 = x.1 /\ x.2.1 = x.2.1 /\ x.2.2.1 = x.2.2.1 /\ I (wrZ (y.1 + q92), true, y.2.2.1, y.2.2.2.1, ()) ((z.1.1, z.1.2.1, ()), ()) /\ μ (wrZ
  (y.1 + q92), true, y.2.2.1, y.2.2.2.1, ()) ((z.1.1, z.1.2.1, ()), ()) < μ y z)) /\ True) /\ (decide (y.1 < (q426 x)) = false -> False)) /\ (decide (wrZ q388 < q94) = false -> ∃ (I : q47), ∃
  (μ : q48), ((lnZ x.1) = (lnZ x.1) /\ x.1 = x.1 /\ Value.bool false = Value.bool false /\ wrZ q388 = wrZ q388 /\ Value.bool false = Value.bool false /\ y.1 = y.1 /\ (q425 x) = (q425 x) /\
  List.getD [x.1, x.2.1] q59 q434 = List.getD [x.1, x.2.1] q59 q434 /\ List.getD [x.1, x.2.1] q59 q434 = List.getD [x.1, x.2.1] q59 q434 /\ wrZ q389 = wrZ q389 /\ [x.1, x.2.1] = [x.1, x.2.1]
  /\ Value.bool false = Value.bool false /\ y.2.2.1 = y.2.2.1 /\ y.2.2.2.1 = y.2.2.2.1 /\ x.1 = x.1 /\ x.2.1 = x.2.1 /\ x.2.2.1 = x.2.2.1 /\ I (q56, false, false, ()) ((z.1.1, z.1.2.1, ()),
  ())) /\ ∀ (y_1 : q36) (z : q44), (wiZ y_1.1 /\ wbZ y_1.2.1 /\ wbZ y_1.2.2.1 /\ True) -> (q435 z) /\ True -> I y_1 z -> (decide (y_1.1 < (lnZ x.1)) = true -> (q56 <= y_1.1 /\ y_1.1 < (lnZ
  x.1)) /\ q93 <= q89 /\ (y_1.2.2.1 = false -> True) /\ (q433 y_1) /\ (y_1.2.2.1 = false -> True) /\ (q433 y_1) /\ (q429 y_1) /\ (y_1.2.2.1 = false -> (y_1.2.2.1 == false) = true) /\ (y_1.2.1
  = false -> True) /\ (y_1.2.1 = false -> True) /\ (y_1.2.1 = false -> (y_1.2.1 == false) = true /\ (y_1.2.1 == false) = true /\ (q422 x y_1 z) /\ (∀ (y_2 : q4), (q67 y_2) -> y_2.1 = allT
  ((q431 x y_1).1, (q431 x y_1).2) (z.1.1, z.1.2.1) -> (lnZ x.1) = (lnZ x.1) /\ x.1 = x.1 /\ Value.bool false = Value.bool false /\ wrZ q388 = wrZ q388 /\ Value.bool false = Value.bool false
  /\ y.1 = y.1 /\ (q425 x) = (q425 x) /\ List.getD [x.1, x.2.1] q59 q434 = List.getD [x.1, x.2.1] q59 q434 /\ List.getD [x.1, x.2.1] q59 q434 = List.getD [x.1, x.2.1] q59 q434 /\ wrZ q389 =
  wrZ q389 /\ [x.1, x.2.1] = [x.1, x.2.1] /\ Value.bool false = Value.bool false /\ y.2.2.1 = y.2.2.1 /\ y.2.2.2.1 = y.2.2.2.1 /\ x.1 = x.1 /\ x.2.1 = x.2.1 /\ x.2.2.1 = x.2.2.1 /\ I (wrZ
  (y_1.1 + q92), y_2.1, bif y_1.2.2.1 then true else decide (q427 x y_1 z), ()) ((z.1.1, z.1.2.1, ()), ()) /\ μ (wrZ (y_1.1 + q92), y_2.1, bif y_1.2.2.1 then true else decide (q427 x y_1 z),
  ()) ((z.1.1, z.1.2.1, ()), ()) < μ y_1 z) /\ True) /\ (y_1.2.1 = !false -> (lnZ x.1) = (lnZ x.1) /\ x.1 = x.1 /\ Value.bool false = Value.bool false /\ wrZ q388 = wrZ q388 /\ Value.bool
  false = Value.bool false /\ y.1 = y.1 /\ (q425 x) = (q425 x) /\ List.getD [x.1, x.2.1] q59 q434 = List.getD [x.1, x.2.1] q59 q434 /\ List.getD [x.1, x.2.1] q59 q434 = List.getD [x.1, x.2.1]
  q59 q434 /\ wrZ q389 = wrZ q389 /\ [x.1, x.2.1] = [x.1, x.2.1] /\ Value.bool false = Value.bool false /\ y.2.2.1 = y.2.2.1 /\ y.2.2.2.1 = y.2.2.2.1 /\ x.1 = x.1 /\ x.2.1 = x.2.1 /\ x.2.2.1
  = x.2.2.1 /\ I (wrZ (y_1.1 + q92), true, bif y_1.2.2.1 then true else decide (q427 x y_1 z), ()) ((z.1.1, z.1.2.1, ()), ()) /\ μ (wrZ (y_1.1 + q92), true, bif y_1.2.2.1 then true else
  decide (q427 x y_1 z), ()) ((z.1.1, z.1.2.1, ()), ()) < μ y_1 z)) /\ (decide (y_1.1 < (lnZ x.1)) = false -> (y_1.2.2.1 = true -> True) /\ (y_1.2.2.1 = true -> (y_1.2.2.1 == true) = true /\
  True) /\ (y_1.2.2.1 = true -> (y_1.2.2.1 == true) = true) /\ (q423 y_1 x) /\ ((bif y_1.2.2.1 then !y_1.2.1 else false) = false -> ∃ (I : q42), ∃ (μ : q43), ((lnZ x.2.1) = (lnZ x.2.1) /\
  x.2.1 = x.2.1 /\ Value.bool false = Value.bool false /\ Value.bool false = Value.bool false /\ y_1.1 = y_1.1 /\ (lnZ x.1) = (lnZ x.1) /\ x.1 = x.1 /\ y_1.2.1 = y_1.2.1 /\ y_1.2.2.1 =
  y_1.2.2.1 /\ Value.bool false = Value.bool false /\ wrZ q388 = wrZ q388 /\ Value.bool false = Value.bool false /\ y.1 = y.1 /\ (q425 x) = (q425 x) /\ List.getD [x.1, x.2.1] q59 q434 =
  List.getD [x.1, x.2.1] q59 q434 /\ List.getD [x.1, x.2.1] q59 q434 = List.getD [x.1, x.2.1] q59 q434 /\ wrZ q389 = wrZ q389 /\ [x.1, x.2.1] = [x.1, x.2.1] /\ Value.bool false = Value.bool
  false /\ x.1 = x.1 /\ x.2.1 = x.2.1 /\ x.2.2.1 = x.2.2.1 /\ I (q56, y.2.2.1, y.2.2.2.1, ()) ((z.1.1, z.1.2.1, ()), ())) /\ ∀ (y_2 : q27) (z : q44), (q248 y_2) -> (q435 z) /\ True -> I y_2 z
  -> (decide (y_2.1 < (lnZ x.2.1)) = true -> (q56 <= y_2.1 /\ y_2.1 < (lnZ x.2.1)) /\ q93 <= q89 /\ (q421 x y_2 z) /\ (∀ (y_3 : q4), (q67 y_3) -> y_3.1 = someT ((q430 x y_2).1, (q430 x
  y_2).2) (z.1.1, z.1.2.1) -> (q432 y_3 y_2 x) /\ (y_3.1 = false -> (lnZ x.2.1) = (lnZ x.2.1) /\ x.2.1 = x.2.1 /\ Value.bool false = Value.bool false /\ Value.bool false = Value.bool false /\
  y_1.1 = y_1.1 /\ (lnZ x.1) = (lnZ x.1) /\ x.1 = x.1 /\ y_1.2.1 = y_1.2.1 /\ y_1.2.2.1 = y_1.2.2.1 /\ Value.bool false = Value.bool false /\ wrZ q388 = wrZ q388 /\ Value.bool false =
  Value.bool false /\ y.1 = y.1 /\ (q425 x) = (q425 x) /\ List.getD [x.1, x.2.1] q59 q434 = List.getD [x.1, x.2.1] q59 q434 /\ List.getD [x.1, x.2.1] q59 q434 = List.getD [x.1, x.2.1] q59
  q434 /\ wrZ q389 = wrZ q389 /\ [x.1, x.2.1] = [x.1, x.2.1] /\ Value.bool false = Value.bool false /\ x.1 = x.1 /\ x.2.1 = x.2.1 /\ x.2.2.1 = x.2.2.1 /\ I (wrZ (q436 y_2), y_2.2.1,
  y_2.2.2.1, ()) ((z.1.1, z.1.2.1, ()), ()) /\ μ (wrZ (q436 y_2), y_2.2.1, y_2.2.2.1, ()) ((z.1.1, z.1.2.1, ()), ()) < μ y_2 z)) /\ True) /\ (q428 y_2 x)))))) /\ (decide (wrZ q389 < q94) =
  false -> ∃ (I : q47), ∃ (μ : q48), ((lnZ x.1) = (lnZ x.1) /\ x.1 = x.1 /\ Value.bool false = Value.bool false /\ wrZ q389 = wrZ q389 /\ Value.bool false = Value.bool false /\ y.1 = y.1 /\
  (q424 x) = (q424 x) /\ List.getD [x.1, x.2.1] q91 q434 = List.getD [x.1, x.2.1] q91 q434 /\ List.getD [x.1, x.2.1] q91 q434 = List.getD [x.1, x.2.1] q91 q434 /\ q56 = q56 /\ [x.1, x.2.1] =
  [x.1, x.2.1] /\ Value.bool false = Value.bool false /\ y.2.1 = y.2.1 /\ y.2.2.1 = y.2.2.1 /\ x.1 = x.1 /\ x.2.1 = x.2.1 /\ x.2.2.1 = x.2.2.1 /\ I (q56, false, false, ()) ((z.1.1, z.1.2.1,
  ()), ())) /\ ∀ (y_1 : q36) (z : q44), (wiZ y_1.1 /\ wbZ y_1.2.1 /\ wbZ y_1.2.2.1 /\ True) -> (q435 z) /\ True -> I y_1 z -> (decide (y_1.1 < (lnZ x.1)) = true -> (q56 <= y_1.1 /\ y_1.1 <
  (lnZ x.1)) /\ q93 <= q89 /\ (y_1.2.2.1 = false -> True) /\ (q433 y_1) /\ (y_1.2.2.1 = false -> True) /\ (q433 y_1) /\ (q429 y_1) /\ (y_1.2.2.1 = false -> (y_1.2.2.1 == false) = true) /\
  (y_1.2.1 = false -> True) /\ (y_1.2.1 = false -> True) /\ (y_1.2.1 = false -> (y_1.2.1 == false) = true /\ (y_1.2.1 == false) = true /\ (q422 x y_1 z) /\ (∀ (y_2 : q4), (q67 y_2) -> y_2.1 =
  allT ((q431 x y_1).1, (q431 x y_1).2) (z.1.1, z.1.2.1) -> (lnZ x.1) = (lnZ x.1) /\ x.1 = x.1 /\ Value.bool false = Value.bool false /\ wrZ q389 = wrZ q389 /\ Value.bool false = Value.bool
  false /\ y.1 = y.1 /\ (q424 x) = (q424 x) /\ List.getD [x.1, x.2.1] q91 q434 = List.getD [x.1, x.2.1] q91 q434 /\ List.getD [x.1, x.2.1] q91 q434 = List.getD [x.1, x.2.1] q91 q434 /\ q56 =
  q56 /\ [x.1, x.2.1] = [x.1, x.2.1] /\ Value.bool false = Value.bool false /\ y.2.1 = y.2.1 /\ y.2.2.1 = y.2.2.1 /\ x.1 = x.1 /\ x.2.1 = x.2.1 /\ x.2.2.1 = x.2.2.1 /\ I (wrZ (y_1.1 + q92),
  y_2.1, bif y_1.2.2.1 then true else decide (q427 x y_1 z), ()) ((z.1.1, z.1.2.1, ()), ()) /\ μ (wrZ (y_1.1 + q92), y_2.1, bif y_1.2.2.1 then true else decide (q427 x y_1 z), ()) ((z.1.1,
  z.1.2.1, ()), ()) < μ y_1 z) /\ True) /\ (y_1.2.1 = !false -> (lnZ x.1) = (lnZ x.1) /\ x.1 = x.1 /\ Value.bool false = Value.bool false /\ wrZ q389 = wrZ q389 /\ Value.bool false =
  Value.bool false /\ y.1 = y.1 /\ (q424 x) = (q424 x) /\ List.getD [x.1, x.2.1] q91 q434 = List.getD [x.1, x.2.1] q91 q434 /\ List.getD [x.1, x.2.1] q91 q434 = List.getD [x.1, x.2.1] q91
  q434 /\ q56 = q56 /\ [x.1, x.2.1] = [x.1, x.2.1] /\ Value.bool false = Value.bool false /\ y.2.1 = y.2.1 /\ y.2.2.1 = y.2.2.1 /\ x.1 = x.1 /\ x.2.1 = x.2.1 /\ x.2.2.1 = x.2.2.1 /\ I (wrZ
  (y_1.1 + q92), true, bif y_1.2.2.1 then true else decide (q427 x y_1 z), ()) ((z.1.1, z.1.2.1, ()), ()) /\ μ (wrZ (y_1.1 + q92), true, bif y_1.2.2.1 then true else decide (q427 x y_1 z),
  ()) ((z.1.1, z.1.2.1, ()), ()) < μ y_1 z)) /\ (decide (y_1.1 < (lnZ x.1)) = false -> (y_1.2.2.1 = true -> True) /\ (y_1.2.2.1 = true -> (y_1.2.2.1 == true) = true /\ True) /\ (y_1.2.2.1 =
  true -> (y_1.2.2.1 == true) = true) /\ (q423 y_1 x) /\ ((bif y_1.2.2.1 then !y_1.2.1 else false) = false -> ∃ (I : q42), ∃ (μ : q43), ((lnZ x.2.1) = (lnZ x.2.1) /\ x.2.1 = x.2.1 /\
  Value.bool false = Value.bool false /\ Value.bool false = Value.bool false /\ y_1.1 = y_1.1 /\ (lnZ x.1) = (lnZ x.1) /\ x.1 = x.1 /\ y_1.2.1 = y_1.2.1 /\ y_1.2.2.1 = y_1.2.2.1 /\ Value.bool
  false = Value.bool false /\ wrZ q389 = wrZ q389 /\ Value.bool false = Value.bool false /\ y.1 = y.1 /\ (q424 x) = (q424 x) /\ List.getD [x.1, x.2.1] q91 q434 = List.getD [x.1, x.2.1] q91
  q434 /\ List.getD [x.1, x.2.1] q91 q434 = List.getD [x.1, x.2.1] q91 q434 /\ q56 = q56 /\ [x.1, x.2.1] = [x.1, x.2.1] /\ Value.bool false = Value.bool false /\ x.1 = x.1 /\ x.2.1 = x.2.1 /\
  x.2.2.1 = x.2.2.1 /\ I (q56, y.2.1, y.2.2.1, ()) ((z.1.1, z.1.2.1, ()), ())) /\ ∀ (y_2 : q27) (z : q44), (q248 y_2) -> (q435 z) /\ True -> I y_2 z -> (decide (y_2.1 < (lnZ x.2.1)) = true ->
  (q56 <= y_2.1 /\ y_2.1 < (lnZ x.2.1)) /\ q93 <= q89 /\ (q421 x y_2 z) /\ (∀ (y_3 : q4), (q67 y_3) -> y_3.1 = someT ((q430 x y_2).1, (q430 x y_2).2) (z.1.1, z.1.2.1) -> (q432 y_3 y_2 x) /\
  (y_3.1 = false -> (lnZ x.2.1) = (lnZ x.2.1) /\ x.2.1 = x.2.1 /\ Value.bool false = Value.bool false /\ Value.bool false = Value.bool false /\ y_1.1 = y_1.1 /\ (lnZ x.1) = (lnZ x.1) /\ x.1 =
  x.1 /\ y_1.2.1 = y_1.2.1 /\ y_1.2.2.1 = y_1.2.2.1 /\ Value.bool false = Value.bool false /\ wrZ q389 = wrZ q389 /\ Value.bool false = Value.bool false /\ y.1 = y.1 /\ (q424 x) = (q424 x) /\
  List.getD [x.1, x.2.1] q91 q434 = List.getD [x.1, x.2.1] q91 q434 /\ List.getD [x.1, x.2.1] q91 q434 = List.getD [x.1, x.2.1] q91 q434 /\ q56 = q56 /\ [x.1, x.2.1] = [x.1, x.2.1] /\
  Value.bool false = Value.bool false /\ x.1 = x.1 /\ x.2.1 = x.2.1 /\ x.2.2.1 = x.2.2.1 /\ I (wrZ (q436 y_2), y_2.2.1, y_2.2.2.1, ()) ((z.1.1, z.1.2.1, ()), ()) /\ μ (wrZ (q436 y_2),
  y_2.2.1, y_2.2.2.1, ()) ((z.1.1, z.1.2.1, ()), ()) < μ y_2 z)) /\ True) /\ (q428 y_2 x)))))) /\ (decide (q56 < q94) = false -> ∃ (I : q47), ∃ (μ : q48), ((lnZ x.1) = (lnZ x.1) /\ x.1 = x.1
  /\ Value.bool false = Value.bool false /\ q56 = q56 /\ [x.1, x.2.1] = [x.1, x.2.1] /\ Value.bool false = Value.bool false /\ q56 = q56 /\ q56 = q56 /\ x.1 = x.1 /\ x.2.1 = x.2.1 /\ x.2.2.1
  = x.2.2.1 /\ I (q56, false, false, ()) ((x.2.2.1.1, x.2.2.1.2, ()), ())) /\ ∀ (y : q36) (z : q44), (wiZ y.1 /\ wbZ y.2.1 /\ wbZ y.2.2.1 /\ True) -> (q435 z) /\ True -> I y z -> (decide (y.1
  < (lnZ x.1)) = true -> (q56 <= y.1 /\ y.1 < (lnZ x.1)) /\ q93 <= q89 /\ (y.2.2.1 = false -> True) /\ (q433 y) /\ (y.2.2.1 = false -> True) /\ (q433 y) /\ (q429 y) /\ (y.2.2.1 = false ->
  (y.2.2.1 == false) = true) /\ (y.2.1 = false -> True) /\ (y.2.1 = false -> True) /\ (y.2.1 = false -> (y.2.1 == false) = true /\ (y.2.1 == false) = true /\ (q422 x y z) /\ (∀ (y_1 : q4),
  (q67 y_1) -> y_1.1 = allT ((q431 x y).1, (q431 x y).2) (z.1.1, z.1.2.1) -> (lnZ x.1) = (lnZ x.1) /\ x.1 = x.1 /\ Value.bool false = Value.bool false /\ q56 = q56 /\ [x.1, x.2.1] = [x.1,
  x.2.1] /\ Value.bool false = Value.bool false /\ q56 = q56 /\ q56 = q56 /\ x.1 = x.1 /\ x.2.1 = x.2.1 /\ x.2.2.1 = x.2.2.1 /\ I (wrZ (y.1 + q92), y_1.1, bif y.2.2.1 then true else decide
  (q427 x y z), ()) ((z.1.1, z.1.2.1, ()), ()) /\ μ (wrZ (y.1 + q92), y_1.1, bif y.2.2.1 then true else decide (q427 x y z), ()) ((z.1.1, z.1.2.1, ()), ()) < μ y z) /\ True) /\ (y.2.1 =
  !false -> (lnZ x.1) = (lnZ x.1) /\ x.1 = x.1 /\ Value.bool false = Value.bool false /\ q56 = q56 /\ [x.1, x.2.1] = [x.1, x.2.1] /\ Value.bool false = Value.bool false /\ q56 = q56 /\ q56 =
  q56 /\ x.1 = x.1 /\ x.2.1 = x.2.1 /\ x.2.2.1 = x.2.2.1 /\ I (wrZ (y.1 + q92), true, bif y.2.2.1 then true else decide (q427 x y z), ()) ((z.1.1, z.1.2.1, ()), ()) /\ μ (wrZ (y.1 + q92),
  true, bif y.2.2.1 then true else decide (q427 x y z), ()) ((z.1.1, z.1.2.1, ()), ()) < μ y z)) /\ (decide (y.1 < (lnZ x.1)) = false -> (y.2.2.1 = true -> True) /\ (y.2.2.1 = true ->
  (y.2.2.1 == true) = true /\ True) /\ (y.2.2.1 = true -> (y.2.2.1 == true) = true) /\ (q423 y x) /\ ((bif y.2.2.1 then !y.2.1 else false) = false -> ∃ (I : q42), ∃ (μ : q43), ((lnZ x.2.1) =
  (lnZ x.2.1) /\ x.2.1 = x.2.1 /\ Value.bool false = Value.bool false /\ Value.bool false = Value.bool false /\ y.1 = y.1 /\ (lnZ x.1) = (lnZ x.1) /\ x.1 = x.1 /\ y.2.1 = y.2.1 /\ y.2.2.1 =
  y.2.2.1 /\ Value.bool false = Value.bool false /\ q56 = q56 /\ [x.1, x.2.1] = [x.1, x.2.1] /\ Value.bool false = Value.bool false /\ x.1 = x.1 /\ x.2.1 = x.2.1 /\ x.2.2.1 = x.2.2.1 /\ I
  (q56, q56, q56, ()) ((z.1.1, z.1.2.1, ()), ())) /\ ∀ (y_1 : q27) (z : q44), (q248 y_1) -> (q435 z) /\ True -> I y_1 z -> (decide (y_1.1 < (lnZ x.2.1)) = true -> (q56 <= y_1.1 /\ y_1.1 <
  (lnZ x.2.1)) /\ q93 <= q89 /\ (q421 x y_1 z) /\ (∀ (y_2 : q4), (q67 y_2) -> y_2.1 = someT ((q430 x y_1).1, (q430 x y_1).2) (z.1.1, z.1.2.1) -> (q432 y_2 y_1 x) /\ (y_2.1 = false -> (lnZ
  x.2.1) = (lnZ x.2.1) /\ x.2.1 = x.2.1 /\ Value.bool false = Value.bool false /\ Value.bool false = Value.bool false /\ y.1 = y.1 /\ (lnZ x.1) = (lnZ x.1) /\ x.1 = x.1 /\ y.2.1 = y.2.1 /\
  y.2.2.1 = y.2.2.1 /\ Value.bool false = Value.bool false /\ q56 = q56 /\ [x.1, x.2.1] = [x.1, x.2.1] /\ Value.bool false = Value.bool false /\ x.1 = x.1 /\ x.2.1 = x.2.1 /\ x.2.2.1 =
  x.2.2.1 /\ I (wrZ (q436 y_1), y_1.2.1, y_1.2.2.1, ()) ((z.1.1, z.1.2.1, ()), ()) /\ μ (wrZ (q436 y_1), y_1.2.1, y_1.2.2.1, ()) ((z.1.1, z.1.2.1, ()), ()) < μ y_1 z)) /\ True) /\ (q428 y_1
  x)))))) /\ True
theorem e21 : t21 = Con.vc c_within_Check GL (mkEnvO ty [(18, conSem c_host_May), (11, conSem c_within_May), (13, conSem c_within_All), (15, conSem c_within_Some)] [] [] [0, 1, 2, 5, 6, 7, 8, 9, 10, 11, 12, 13, 15, 16, 17, 20, 23, 24, 25, 28, 29, 30, 31, 37, 46, 47, 48, 49, 71, 72, 73, 74, 75, 81] [1000000]) {rounds := [(4,3)]} Tryz.f21.ntmps Tryz.f21.results.toList (bodyOf Tryz.f21) := by kernel_rfl
theorem k21 : t21 := by
  unfold t21
  delta q41 q418 q153 q21 q183 q89 q4 q67 q56 q94 q93 q42 q43 q424 q91 q434 q27 q44 q248 q435 q419 wrZ lnZ q436 q389 q45 q46 q425 q59 wiZ wbZ q420 q92 q388 q426 q47 q48 q36 q433 q429 q422 q431 q427 q423 q421 q430 q432 q428 q508 q489 q477 q551 wsZ q470 q491 q452 q556 q514 q572 q566
  rintro ⟨p, x, ⟨g, s⟩, _⟩ hx hp
  obtain ⟨⟨lp, ep⟩, ⟨lx, ex⟩, hs⟩ := hp
  simp only at lp ep lx ex hs
  clear hx
  try dsimp +instances only [dft_int, dft_sl, dft_str]
  simp only [true_and, and_true, eq_self_iff_true, implies_true, reduceCtorEq, false_implies, true_implies, decide_eq_true_eq, decide_eq_false_iff_not, beq_self_eq_true, Bool.not_eq_true', ne_eq, Decidable.not_not, List.nil_append, List.length_singleton, List.length_cons, List.length_nil, Nat.zero_add, Nat.add_zero, Nat.mul_one, and_self, beq_iff_eq, Bool.not_true, Bool.not_false, Bool.not_eq_false', Bool.cond_false_right, Bool.and_eq_true, imp_self, Bool.not_eq_true, Bool.cond_true_left, Bool.or_eq_true]
  have w1 : IntKind.i64.wrap (0 + 1) = 1 := by decide
  have w2 : IntKind.i64.wrap (1 + 1) = 2 := by decide
  have hdft : ((Kd.int IntKind.i64).pair Kd.str).dft = ((0 : Int), ([] : List Int)) := rfl
  have m0 : IntKind.i64.wrap (0 * (p.length : Int)) = 0 := by rw [Int.zero_mul]; decide
  have m1 : IntKind.i64.wrap (1 * (p.length : Int)) = p.length := by rw [Int.one_mul]; exact wrapK _ (by omega) (by omega)
  simp only [w1, w2, hdft, List.getD_cons_zero, List.getD_cons_succ, m0, m1]
  refine ⟨by decide, hs, ?_⟩
  rintro ⟨mg, _⟩ _ em
  simp only at em ⊢
  refine ⟨fun h => (check_host (g := (g, s)) (by rw [← em]; exact h)).symm, fun h => ?_⟩
  have hg : mayG g s = true := by rw [← em]; exact h
  refine ⟨fun _ => ⟨⟨by decide, by decide⟩, ?_⟩, fun h => absurd (by decide) h⟩
  refine ⟨fun y z => 0 ≤ y.1 ∧ y.1 ≤ p.length ∧ (∀ j : Nat, j < y.1.toNat → mayT (p.getD j (0, [])).1 (p.getD j (0, [])).2 = true) ∧ z.1 = (g, s, ()), fun y _ => ((p.length : Int) - y.1).toNat, ⟨Int.le_refl 0, by simp only; omega, fun j h => by simp at h, rfl⟩, ?_⟩
  rintro ⟨i, a, b, _⟩ ⟨z1, _⟩ _ _ ⟨i0, i1, hi, hz⟩
  simp only at i0 i1 hi hz
  subst hz
  simp only
  refine ⟨fun hlt => ⟨⟨i0, hlt⟩, by decide, lenT_gd ep _, ?_⟩, fun hge => ?_⟩
  . rintro ⟨m, _⟩ _ em
    simp only at em ⊢
    rw [wrapK (i + 1) (by omega) (by omega), wrapK (i + 0) (by omega) (by omega)]
    refine ⟨fun hm => ?_, fun hm => ⟨⟨by omega, by omega, fun j hj => ?_, trivial⟩, by omega⟩⟩
    . rw [check_bad1 (g := (g, s)) hg (i := i.toNat) (by omega) hi (by rw [← em]; exact hm)]
      congr 1
      omega
    . by_cases e : j < i.toNat
      . exact hi j e
      . rw [show j = i.toNat by omega, ← em]; exact hm
  have hP : okAll p := fun j hj => hi j (by omega)
  refine ⟨fun _ => ⟨⟨by decide, by decide⟩, ?_⟩, fun h => absurd (by decide) h⟩
  clear hi i0 i1 hge
  refine ⟨fun y z => 0 ≤ y.1 ∧ y.1 ≤ x.length ∧ (∀ j : Nat, j < y.1.toNat → mayT (x.getD j (0, [])).1 (x.getD j (0, [])).2 = true) ∧ z.1 = (g, s, ()), fun y _ => ((x.length : Int) - y.1).toNat, ⟨Int.le_refl 0, by simp only; omega, fun j h => by simp at h, rfl⟩, ?_⟩
  rintro ⟨i, a1, a2, b1, _⟩ ⟨z1, _⟩ _ _ ⟨i0, i1, hi, hz⟩
  simp only at i0 i1 hi hz
  subst hz
  simp only
  refine ⟨fun hlt => ⟨⟨i0, hlt⟩, by decide, lenT_gd ex _, ?_⟩, fun hge => ?_⟩
  . rintro ⟨m, _⟩ _ em
    simp only at em ⊢
    rw [wrapK (i + 1) (by omega) (by omega), wrapK (i + (p.length : Int)) (by omega) (by omega)]
    refine ⟨fun hm => ?_, fun hm => ⟨⟨by omega, by omega, fun j hj => ?_, trivial⟩, by omega⟩⟩
    . rw [check_bad2 (g := (g, s)) hg hP (i := i.toNat) (by omega) hi (by rw [← em]; exact hm)]
      congr 1
      omega
    . by_cases e : j < i.toNat
      . exact hi j e
      . rw [show j = i.toNat by omega, ← em]; exact hm
  have hX : okAll x := fun j hj => hi j (by omega)
  refine ⟨fun h => absurd h (by decide), fun _ => ?_⟩
  clear hi i0 i1 hge
  refine ⟨fun y z => 0 ≤ y.1 ∧ y.1 ≤ p.length ∧ y.2.1 = (p.take y.1.toNat).any (fun t => allT t (g, s)) ∧ y.2.2.1 = (p.take y.1.toNat).any (fun t => decide (t.1 = g)) ∧ z.1 = (g, s, ()), fun y _ => ((p.length : Int) - y.1).toNat, ⟨Int.le_refl 0, by simp only; omega, rfl, rfl, rfl⟩, ?_⟩
  rintro ⟨i, a1, a2, _⟩ ⟨z1, _⟩ _ _ ⟨i0, i1, h1, h2, hz⟩
  simp only at i0 i1 h1 h2 hz
  subst hz
  simp only
  refine ⟨fun hlt => ⟨⟨i0, hlt⟩, by decide, fun ha => ⟨ha, ha, ⟨lenT_gd ep _, hs⟩, ?_⟩, fun ha => ?_⟩, fun hge => ?_⟩
  . rintro ⟨m, _⟩ _ em
    simp only at em ⊢
    rw [wrapK (i + 1) (by omega) (by omega)]
    refine ⟨⟨by omega, by omega, ?_, ?_, trivial⟩, by omega⟩
    . rw [show (i + 1).toNat = i.toNat + 1 by omega, any_take _ _ _ (by omega), ← h1, ha, em]; rfl
    . rw [show (i + 1).toNat = i.toNat + 1 by omega, any_take _ _ _ (by omega), ← h2]
  . rw [wrapK (i + 1) (by omega) (by omega)]
    refine ⟨⟨by omega, by omega, ?_, ?_, trivial⟩, by omega⟩
    . rw [show (i + 1).toNat = i.toNat + 1 by omega, any_take _ _ _ (by omega), ← h1, ha]; rfl
    . rw [show (i + 1).toNat = i.toNat + 1 by omega, any_take _ _ _ (by omega), ← h2]
  rw [List.take_of_length_le (by omega)] at h1 h2
  clear i0 i1 hge
  refine ⟨fun h => (check_out (g := (g, s)) hg hP hX (by rw [← h2]; exact h.1) (by rw [← h1]; exact h.2)).symm, fun h => ?_⟩
  have hn : ¬ ((p.any fun t => decide (t.1 = g)) = true ∧ (p.any fun t => allT t (g, s)) = false) := by
    rw [← h1, ← h2]
    rintro ⟨c1, c2⟩
    rw [c1, c2] at h
    cases h
  refine ⟨fun y z => 0 ≤ y.1 ∧ y.1 ≤ x.length ∧ (∀ j : Nat, j < y.1.toNat → someT (x.getD j (0, [])) (g, s) = false) ∧ z.1 = (g, s, ()), fun y _ => ((x.length : Int) - y.1).toNat, ⟨Int.le_refl 0, by simp only; omega, fun j h => by simp at h, rfl⟩, ?_⟩
  rintro ⟨i, c1, c2, _⟩ ⟨z1, _⟩ _ _ ⟨i0, i1, hi, hz⟩
  simp only at i0 i1 hi hz
  subst hz
  simp only
  refine ⟨fun hlt => ⟨⟨i0, hlt⟩, by decide, ⟨lenT_gd ex _, hs⟩, ?_⟩, fun hge => ?_⟩
  . rintro ⟨m, _⟩ _ em
    simp only at em ⊢
    rw [wrapK (i + 1) (by omega) (by omega)]
    refine ⟨fun hm => ?_, fun hm => ⟨⟨by omega, by omega, fun j hj => ?_, trivial⟩, by omega⟩⟩
    . rw [check_in (g := (g, s)) hg hP hX hn (i := i.toNat) (by omega) hi (by rw [← hm, em])]
      congr 1
      omega
    . by_cases e : j < i.toNat
      . exact hi j e
      . rw [show j = i.toNat by omega, ← hm, em]
  . exact (check_ok (g := (g, s)) hg hP hX hn fun j hj => hi j (by omega)).symm
theorem h21 : c_within_Check.ok Tryz.prog GL 21 := conO_ok (H := {rounds := [(4,3)]}) (mkEnvO_ok (gl := GL) (l := [(18, conSem c_host_May), (11, conSem c_within_May), (13, conSem c_within_All), (15, conSem c_within_Some)]) (q := []) (d := []) _ [1000000] tyOk (by kernel_rfl) ⟨h18.call, h11.call, h13.call, h15.call, trivial⟩ trivial trivial) (by kernel_rfl) (by kernel_rfl) (Eq.mp e21 k21)
def t22 : Prop :=
  ∀ (x : q49), (q438 x) -> ((List.length x.1 <= q153 /\ ∀ (t : q21), t ∈ x.1 -> List.length t.2 <= q153) /\ (List.length x.2.1 <= q153 /\ ∀ (t : q21), t ∈ x.2.1 -> List.length t.2 <= q153) /\
  List.length x.2.2.1 <= q153 /\ ∀ (t : q21), t ∈ x.2.2.1 -> List.length t.2 <= q153) -> ∃ (I : q29), ∃ (μ : q30), ((lnZ x.2.2.1) = (lnZ x.2.2.1) /\ x.2.2.1 = x.2.2.1 /\ x.1 = x.1 /\ x.2.1 =
  x.2.1 /\ x.2.2.1 = x.2.2.1 /\ I (q56, q56, q56, q56, ()) ()) /\ ∀ (y : q24) (z : Unit), (q229 y) -> True -> I y z -> (decide (y.1 < (lnZ x.2.2.1)) = true -> (q56 <= y.1 /\ y.1 < (lnZ
  x.2.2.1)) /\ q93 <= q89 /\ (q437 x y) /\ (∀ (y_1 : q7), (q113 y_1) -> (y_1.1, y_1.2.1) = checkT x.1 x.2.1 ((q439 x y).1, (q439 x y).2) -> (decide (y_1.2.1 ≠ q56) = true -> (y.1, y_1.1,
  y_1.2.1) = rowT x.1 x.2.1 x.2.2.1 q91) /\ (decide (y_1.2.1 ≠ q56) = false -> (lnZ x.2.2.1) = (lnZ x.2.2.1) /\ x.2.2.1 = x.2.2.1 /\ x.1 = x.1 /\ x.2.1 = x.2.1 /\ x.2.2.1 = x.2.2.1 /\ I (wrZ
  (y.1 + q92), y.2.1, y.2.2.1, y.2.2.2.1, ()) () /\ μ (wrZ (y.1 + q92), y.2.1, y.2.2.1, y.2.2.2.1, ()) () < μ y z)) /\ True) /\ (decide (y.1 < (lnZ x.2.2.1)) = false -> (q56, q56, q56) = rowT
  x.1 x.2.1 x.2.2.1 q91)
theorem e22 : t22 = Con.vc c_within_Row GL (mkEnvO ty [(21, conSem c_within_Check)] [] [] [0, 1, 2, 6, 7, 8, 9, 10, 11, 12, 13, 14, 15, 16, 28] [1000000]) {} Tryz.f22.ntmps Tryz.f22.results.toList (bodyOf Tryz.f22) := by kernel_rfl
theorem k22 : t22 := by
  unfold t22
  delta q49 q438 q153 q21 q29 q30 lnZ q56 q24 q229 q93 q89 q437 q7 q113 q439 q91 wrZ q92 q508 wiZ q514 q470 q572
  rintro ⟨p, x, l, _⟩ hx hp
  obtain ⟨hp1, hp2, ll, el⟩ := hp
  simp only at hp1 hp2 ll el
  clear hx
  try dsimp +instances only [dft_int, dft_sl, dft_str]
  simp only [true_and, and_true, eq_self_iff_true, implies_true, reduceCtorEq, false_implies, true_implies, decide_eq_true_eq, decide_eq_false_iff_not, beq_self_eq_true, Bool.not_eq_true', ne_eq, Decidable.not_not, List.nil_append, List.length_singleton, List.length_cons, List.length_nil, Nat.zero_add, Nat.add_zero, Nat.mul_one, and_self, beq_iff_eq, Bool.not_true, Bool.not_false, Bool.not_eq_false', Bool.cond_false_right, Bool.and_eq_true, imp_self, Bool.not_eq_true, Bool.cond_true_left, Bool.or_eq_true]
  have hdft : ((Kd.int IntKind.i64).pair Kd.str).dft = ((0 : Int), ([] : List Int)) := rfl
  simp only [hdft]
  refine ⟨fun y _ => 0 ≤ y.1 ∧ y.1 ≤ l.length ∧ ∀ j : Nat, j < y.1.toNat → (checkT p x (l.getD j (0, []))).2 = 0, fun y _ => ((l.length : Int) - y.1).toNat, ⟨Int.le_refl 0, by simp only; omega, fun j h => by simp at h⟩, ?_⟩
  rintro ⟨i, a, b, c, _⟩ z _ ⟨i0, i1, hi⟩
  simp only at i0 i1 hi ⊢
  refine ⟨fun hlt => ⟨⟨i0, hlt⟩, by decide, ⟨hp1, hp2, lenT_gd el _⟩, ?_⟩, fun hge => (row_none p x l 0 fun j hj => hi j (by omega)).symm⟩
  rintro ⟨v, e, _⟩ _ hv
  simp only at hv ⊢
  have hv : (v, e) = checkT p x (l.getD i.toNat (0, [])) := hv
  rw [wrapK (i + 1) (by omega) (by omega)]
  refine ⟨fun he => ?_, fun he => ⟨⟨by omega, by omega, fun j hj => ?_⟩, by omega⟩⟩
  . rw [row_from p x l 0 i.toNat (by omega) hi (by rw [← hv]; exact he), ← hv]
    congr 1
    omega
  . by_cases e1 : j < i.toNat
    . exact hi j e1
    . rw [show j = i.toNat by omega, ← hv]; exact he
theorem h22 : c_within_Row.ok Tryz.prog GL 22 := conO_ok (H := {}) (mkEnvO_ok (gl := GL) (l := [(21, conSem c_within_Check)]) (q := []) (d := []) _ [1000000] tyOk (by kernel_rfl) ⟨h21.call, trivial⟩ trivial trivial) (by kernel_rfl) (by kernel_rfl) (Eq.mp e22 k22)
def t24 : Prop :=
  ∀ (x : q41), (q418 x) -> (List.length x.1 <= q153 /\ ∀ (t : q21), t ∈ x.1 -> List.length t.2 <= q153) /\ (List.length x.2.1 <= q153 /\ ∀ (t : q21), t ∈ x.2.1 -> List.length t.2 <= q153) /\
  List.length x.2.2.1.2 <= q153 -> List.length [SV.dat q183 x.2.2.1.1, SV.dat Kd.str x.2.2.1.2] <= q89 /\ List.length x.2.2.1.2 <= q153 /\ (∀ (y : q4), (q67 y) -> y.1 = mayG x.2.2.1.1
  x.2.2.1.2 -> ((!y.1) = true -> (q56, (130 : Int)) = checkT x.1 x.2.1 x.2.2.1) /\ ((!y.1) = false -> ∃ (I : q50), ∃ (μ : q51), (Value.bool false = Value.bool false /\ x.1 = x.1 /\ x.2.1 =
  x.2.1 /\ x.2.2.1 = x.2.2.1 /\ x.2.2.1.1 = x.2.2.1.1 /\ x.2.2.1.2 = x.2.2.1.2 /\ I (q56, q56, q56, ()) ((), ())) /\ ∀ (y : q27) (z : q26), (q248 y) -> True /\ True -> I y z -> (decide (y.1 <
  (lnZ x.1)) = true -> (q56 <= y.1 /\ y.1 < (lnZ x.1)) /\ List.length (q441 x y).2 <= q153 /\ (∀ (y_1 : q4), (q67 y_1) -> y_1.1 = mayT (q441 x y).1 (q441 x y).2 -> ((!y_1.1) = true -> (y.1,
  (140 : Int)) = checkT x.1 x.2.1 x.2.2.1) /\ ((!y_1.1) = false -> Value.bool false = Value.bool false /\ x.1 = x.1 /\ x.2.1 = x.2.1 /\ x.2.2.1 = x.2.2.1 /\ x.2.2.1.1 = x.2.2.1.1 /\ x.2.2.1.2
  = x.2.2.1.2 /\ I (wrZ (q436 y), y.2.1, y.2.2.1, ()) ((), ()) /\ μ (wrZ (q436 y), y.2.1, y.2.2.1, ()) ((), ()) < μ y z)) /\ True) /\ (decide (y.1 < (lnZ x.1)) = false -> ∃ (I : q50), ∃ (μ :
  q51), (Value.bool false = Value.bool false /\ y.1 = y.1 /\ Value.bool false = Value.bool false /\ x.1 = x.1 /\ x.2.1 = x.2.1 /\ x.2.2.1 = x.2.2.1 /\ x.2.2.1.1 = x.2.2.1.1 /\ x.2.2.1.2 =
  x.2.2.1.2 /\ I (q56, y.2.1, y.2.2.1, ()) ((), ())) /\ ∀ (y_1 : q27) (z : q26), (q248 y_1) -> True /\ True -> I y_1 z -> (decide (y_1.1 < (lnZ x.2.1)) = true -> (q56 <= y_1.1 /\ y_1.1 < (lnZ
  x.2.1)) /\ List.length (q430 x y_1).2 <= q153 /\ (∀ (y_2 : q4), (q67 y_2) -> y_2.1 = mayT (q430 x y_1).1 (q430 x y_1).2 -> ((!y_2.1) = true -> (wrZ ((lnZ x.1) + y_1.1), (140 : Int)) =
  checkT x.1 x.2.1 x.2.2.1) /\ ((!y_2.1) = false -> Value.bool false = Value.bool false /\ y.1 = y.1 /\ Value.bool false = Value.bool false /\ x.1 = x.1 /\ x.2.1 = x.2.1 /\ x.2.2.1 = x.2.2.1
  /\ x.2.2.1.1 = x.2.2.1.1 /\ x.2.2.1.2 = x.2.2.1.2 /\ I (wrZ (q436 y_1), y_1.2.1, y_1.2.2.1, ()) ((), ()) /\ μ (wrZ (q436 y_1), y_1.2.1, y_1.2.2.1, ()) ((), ()) < μ y_1 z)) /\ True) /\
  (decide (y_1.1 < (lnZ x.2.1)) = false -> ∃ (I : q50), ∃ (μ : q51), (Value.bool false = Value.bool false /\ y_1.1 = y_1.1 /\ Value.bool false = Value.bool false /\ y.1 = y.1 /\ Value.bool
  false = Value.bool false /\ y_1.2.1 = y_1.2.1 /\ y_1.2.2.1 = y_1.2.2.1 /\ x.1 = x.1 /\ x.2.1 = x.2.1 /\ x.2.2.1 = x.2.2.1 /\ x.2.2.1.1 = x.2.2.1.1 /\ x.2.2.1.2 = x.2.2.1.2 /\ I (q56, q56,
  q56, ()) ((), ())) /\ ∀ (y_2 : q27) (z : q26), (q248 y_2) -> True /\ True -> I y_2 z -> (decide (y_2.1 < (lnZ x.1)) = true -> (q56 <= y_2.1 /\ y_2.1 < (lnZ x.1)) /\ (decide ((q441 x y_2).1
  = x.2.2.1.1) = true -> (q56 <= y_2.1 /\ y_2.1 < (lnZ x.1)) /\ (q440 x y_2) /\ (∀ (y_3 : q4), (q67 y_3) -> y_3.1 = allT (q441 x y_2) (x.2.2.1.1, x.2.2.1.2) -> (y_3.1 = true -> Value.bool
  false = Value.bool false /\ y_1.1 = y_1.1 /\ Value.bool false = Value.bool false /\ y.1 = y.1 /\ Value.bool false = Value.bool false /\ y_1.2.1 = y_1.2.1 /\ y_1.2.2.1 = y_1.2.2.1 /\ x.1 =
  x.1 /\ x.2.1 = x.2.1 /\ x.2.2.1 = x.2.2.1 /\ x.2.2.1.1 = x.2.2.1.1 /\ x.2.2.1.2 = x.2.2.1.2 /\ I (wrZ (q436 y_2), wrZ (y_2.2.1 + q92), wrZ (y_2.2.2.1 + q92), ()) ((), ()) /\ μ (wrZ (q436
  y_2), wrZ (y_2.2.1 + q92), wrZ (y_2.2.2.1 + q92), ()) ((), ()) < μ y_2 z) /\ (y_3.1 = false -> Value.bool false = Value.bool false /\ y_1.1 = y_1.1 /\ Value.bool false = Value.bool false /\
  y.1 = y.1 /\ Value.bool false = Value.bool false /\ y_1.2.1 = y_1.2.1 /\ y_1.2.2.1 = y_1.2.2.1 /\ x.1 = x.1 /\ x.2.1 = x.2.1 /\ x.2.2.1 = x.2.2.1 /\ x.2.2.1.1 = x.2.2.1.1 /\ x.2.2.1.2 =
  x.2.2.1.2 /\ I (wrZ (q436 y_2), y_2.2.1, wrZ (y_2.2.2.1 + q92), ()) ((), ()) /\ μ (wrZ (q436 y_2), y_2.2.1, wrZ (y_2.2.2.1 + q92), ()) ((), ()) < μ y_2 z)) /\ True) /\ (decide ((q441 x
  y_2).1 = x.2.2.1.1) = false -> (q56 <= y_2.1 /\ y_2.1 < (lnZ x.1)) /\ (q440 x y_2) /\ (∀ (y_3 : q4), (q67 y_3) -> y_3.1 = allT (q441 x y_2) (x.2.2.1.1, x.2.2.1.2) -> (y_3.1 = true ->
  Value.bool false = Value.bool false /\ y_1.1 = y_1.1 /\ Value.bool false = Value.bool false /\ y.1 = y.1 /\ Value.bool false = Value.bool false /\ y_1.2.1 = y_1.2.1 /\ y_1.2.2.1 = y_1.2.2.1
  /\ x.1 = x.1 /\ x.2.1 = x.2.1 /\ x.2.2.1 = x.2.2.1 /\ x.2.2.1.1 = x.2.2.1.1 /\ x.2.2.1.2 = x.2.2.1.2 /\ I (wrZ (q436 y_2), wrZ (y_2.2.1 + q92), y_2.2.2.1, ()) ((), ()) /\ μ (wrZ (q436 y_2),
  wrZ (y_2.2.1 + q92), y_2.2.2.1, ()) ((), ()) < μ y_2 z) /\ (y_3.1 = false -> Value.bool false = Value.bool false /\ y_1.1 = y_1.1 /\ Value.bool false = Value.bool false /\ y.1 = y.1 /\
  Value.bool false = Value.bool false /\ y_1.2.1 = y_1.2.1 /\ y_1.2.2.1 = y_1.2.2.1 /\ x.1 = x.1 /\ x.2.1 = x.2.1 /\ x.2.2.1 = x.2.2.1 /\ x.2.2.1.1 = x.2.2.1.1 /\ x.2.2.1.2 = x.2.2.1.2 /\ I
  (wrZ (q436 y_2), y_2.2.1, y_2.2.2.1, ()) ((), ()) /\ μ (wrZ (q436 y_2), y_2.2.1, y_2.2.2.1, ()) ((), ()) < μ y_2 z)) /\ True)) /\ (decide (y_2.1 < (lnZ x.1)) = false -> (decide (q56 <
  y_2.2.2.1) = true -> True) /\ (decide (q56 < y_2.2.2.1) = true -> (decide (q56 < y_2.2.2.1) == true) = true /\ True) /\ (decide (q56 < y_2.2.2.1) = true -> (decide (q56 < y_2.2.2.1) ==
  true) = true) /\ ((bif decide (q56 < y_2.2.2.1) then decide (y_2.2.1 = q56) else false) = true -> (q56, (141 : Int)) = checkT x.1 x.2.1 x.2.2.1) /\ ((bif decide (q56 < y_2.2.2.1) then
  decide (y_2.2.1 = q56) else false) = false -> ∃ (I : q50), ∃ (μ : q51), (Value.bool false = Value.bool false /\ Value.bool false = Value.bool false /\ y_2.1 = y_2.1 /\ y_2.2.1 = y_2.2.1 /\
  y_2.2.2.1 = y_2.2.2.1 /\ Value.bool false = Value.bool false /\ y_1.1 = y_1.1 /\ Value.bool false = Value.bool false /\ y.1 = y.1 /\ Value.bool false = Value.bool false /\ x.1 = x.1 /\
  x.2.1 = x.2.1 /\ x.2.2.1 = x.2.2.1 /\ x.2.2.1.1 = x.2.2.1.1 /\ x.2.2.1.2 = x.2.2.1.2 /\ I (q56, y_1.2.1, y_1.2.2.1, ()) ((), ())) /\ ∀ (y_3 : q27) (z : q26), (q248 y_3) -> True /\ True -> I
  y_3 z -> (decide (y_3.1 < (lnZ x.2.1)) = true -> (q56 <= y_3.1 /\ y_3.1 < (lnZ x.2.1)) /\ (List.length (q430 x y_3).2 <= q153 /\ List.length x.2.2.1.2 <= q153) /\ (∀ (y_4 : q4), (q67 y_4)
  -> y_4.1 = someT (q430 x y_3) (x.2.2.1.1, x.2.2.1.2) -> (q432 y_4 y_3 x) /\ (y_4.1 = false -> Value.bool false = Value.bool false /\ Value.bool false = Value.bool false /\ y_2.1 = y_2.1 /\
  y_2.2.1 = y_2.2.1 /\ y_2.2.2.1 = y_2.2.2.1 /\ Value.bool false = Value.bool false /\ y_1.1 = y_1.1 /\ Value.bool false = Value.bool false /\ y.1 = y.1 /\ Value.bool false = Value.bool false
  /\ x.1 = x.1 /\ x.2.1 = x.2.1 /\ x.2.2.1 = x.2.2.1 /\ x.2.2.1.1 = x.2.2.1.1 /\ x.2.2.1.2 = x.2.2.1.2 /\ I (wrZ (q436 y_3), y_3.2.1, y_3.2.2.1, ()) ((), ()) /\ μ (wrZ (q436 y_3), y_3.2.1,
  y_3.2.2.1, ()) ((), ()) < μ y_3 z)) /\ True) /\ (q428 y_3 x))))))) /\ True
theorem e24 : t24 = Con.vc c_r14_Check GL (mkEnvO ty [(39, conSem c_r13_May), (12, conSem c_r14_May), (14, conSem c_r14_All), (16, conSem c_r14_Some)] [] [] [0, 1, 2, 5, 6, 7, 8, 9, 10, 11, 12, 13, 16, 20, 28, 33, 41, 49, 59, 67, 75, 79, 87] [1000000]) {} Tryz.f24.ntmps Tryz.f24.results.toList (bodyOf Tryz.f24) := by kernel_rfl
theorem k24 : t24 := by
  unfold t24
  delta q41 q418 q153 q21 q183 q89 q4 q67 q56 q50 q51 q27 q26 q248 lnZ q441 wrZ q436 q430 q440 q92 q432 q428 q508 q489 wbZ wiZ q470 q491 q514 q452 q572 q566
  rintro ⟨p, x, ⟨g, s⟩, _⟩ hx hp
  obtain ⟨⟨lp, ep⟩, ⟨lx, ex⟩, hs⟩ := hp
  simp only at lp ep lx ex hs
  clear hx
  try dsimp +instances only [dft_int, dft_sl, dft_str]
  simp only [true_and, and_true, eq_self_iff_true, implies_true, reduceCtorEq, false_implies, true_implies, decide_eq_true_eq, decide_eq_false_iff_not, beq_self_eq_true, Bool.not_eq_true', ne_eq, Decidable.not_not, List.nil_append, List.length_singleton, List.length_cons, List.length_nil, Nat.zero_add, Nat.add_zero, Nat.mul_one, and_self, beq_iff_eq, Bool.not_true, Bool.not_false, Bool.not_eq_false', Bool.cond_false_right, Bool.and_eq_true, imp_self, Bool.not_eq_true, Bool.cond_true_left, Bool.or_eq_true]
  have hdft : ((Kd.int IntKind.i64).pair Kd.str).dft = ((0 : Int), ([] : List Int)) := rfl
  simp only [hdft]
  refine ⟨by decide, hs, ?_⟩
  rintro ⟨mg, _⟩ _ em
  simp only at em ⊢
  refine ⟨fun h => (check_host (g := (g, s)) (by rw [← em]; exact h)).symm, fun h => ?_⟩
  have hg : mayG g s = true := by rw [← em]; exact h
  refine ⟨fun y _ => 0 ≤ y.1 ∧ y.1 ≤ p.length ∧ (∀ j : Nat, j < y.1.toNat → mayT (p.getD j (0, [])).1 (p.getD j (0, [])).2 = true), fun y _ => ((p.length : Int) - y.1).toNat, ⟨Int.le_refl 0, by simp only; omega, fun j h => by simp at h⟩, ?_⟩
  rintro ⟨i, a, b, _⟩ z _ ⟨i0, i1, hi⟩
  simp only at i0 i1 hi ⊢
  refine ⟨fun hlt => ⟨⟨i0, hlt⟩, lenT_gd ep _, ?_⟩, fun hge => ?_⟩
  . rintro ⟨m, _⟩ _ em
    simp only at em ⊢
    rw [wrapK (i + 1) (by omega) (by omega)]
    refine ⟨fun hm => ?_, fun hm => ⟨⟨by omega, by omega, fun j hj => ?_⟩, by omega⟩⟩
    . rw [check_bad1 (g := (g, s)) hg (i := i.toNat) (by omega) hi (by rw [← em]; exact hm)]
      congr 1
      omega
    . by_cases e : j < i.toNat
      . exact hi j e
      . rw [show j = i.toNat by omega, ← em]; exact hm
  have hP : okAll p := fun j hj => hi j (by omega)
  clear hi i0 i1 hge
  refine ⟨fun y _ => 0 ≤ y.1 ∧ y.1 ≤ x.length ∧ (∀ j : Nat, j < y.1.toNat → mayT (x.getD j (0, [])).1 (x.getD j (0, [])).2 = true), fun y _ => ((x.length : Int) - y.1).toNat, ⟨Int.le_refl 0, by simp only; omega, fun j h => by simp at h⟩, ?_⟩
  rintro ⟨i, a1, b1, _⟩ z _ ⟨i0, i1, hi⟩
  simp only at i0 i1 hi ⊢
  refine ⟨fun hlt => ⟨⟨i0, hlt⟩, lenT_gd ex _, ?_⟩, fun hge => ?_⟩
  . rintro ⟨m, _⟩ _ em
    simp only at em ⊢
    rw [wrapK (i + 1) (by omega) (by omega), wrapK ((p.length : Int) + i) (by omega) (by omega)]
    refine ⟨fun hm => ?_, fun hm => ⟨⟨by omega, by omega, fun j hj => ?_⟩, by omega⟩⟩
    . rw [check_bad2 (g := (g, s)) hg hP (i := i.toNat) (by omega) hi (by rw [← em]; exact hm)]
      congr 1
      omega
    . by_cases e : j < i.toNat
      . exact hi j e
      . rw [show j = i.toNat by omega, ← em]; exact hm
  have hX : okAll x := fun j hj => hi j (by omega)
  clear hi i0 i1 hge
  refine ⟨fun y _ => 0 ≤ y.1 ∧ y.1 ≤ p.length ∧ (0 ≤ y.2.1 ∧ y.2.1 ≤ y.1 ∧ (y.2.1 = 0 ↔ (p.take y.1.toNat).any (fun t => allT t (g, s)) = false)) ∧ (0 ≤ y.2.2.1 ∧ y.2.2.1 ≤ y.1 ∧ (0 < y.2.2.1 ↔ (p.take y.1.toNat).any (fun t => decide (t.1 = g)) = true)), fun y _ => ((p.length : Int) - y.1).toNat, ⟨Int.le_refl 0, by simp only; omega, ⟨Int.le_refl 0, Int.le_refl 0, by simp⟩, ⟨Int.le_refl 0, Int.le_refl 0, by simp⟩⟩, ?_⟩
  rintro ⟨i, c, n, _⟩ z _ ⟨i0, i1, ⟨c0, c1, hc⟩, ⟨n0, n1, hn⟩⟩
  simp only at i0 i1 c0 c1 hc n0 n1 hn ⊢
  rw [wrapK (i + 1) (by omega) (by omega), wrapK (c + 1) (by omega) (by omega), wrapK (n + 1) (by omega) (by omega)]
  refine ⟨fun hlt => ?_, fun hge => ?_⟩
  . have k1 := any_take (fun t => allT t (g, s)) p i.toNat (by omega)
    have k2 := any_take (fun t => decide (t.1 = g)) p i.toNat (by omega)
    rw [show (i + 1).toNat = i.toNat + 1 by omega, k1, k2]
    generalize (p.take i.toNat).any (fun t => allT t (g, s)) = A at *
    generalize (p.take i.toNat).any (fun t => decide (t.1 = g)) = D at *
    refine ⟨⟨i0, hlt⟩, fun hk => ⟨⟨i0, hlt⟩, ⟨lenT_gd ep _, hs⟩, ?_⟩, fun hk => ⟨⟨i0, hlt⟩, ⟨lenT_gd ep _, hs⟩, ?_⟩⟩
    . rintro ⟨m, _⟩ _ em
      simp only at em ⊢
      rw [← em, decide_eq_true hk]
      refine ⟨fun hm => ⟨⟨by omega, by omega, ⟨by omega, by omega, by simp [hm]; omega⟩, ⟨by omega, by omega, by simp; omega⟩⟩, by omega⟩, fun hm => ⟨⟨by omega, by omega, ⟨by omega, by omega, by simp [hm]; exact hc⟩, ⟨by omega, by omega, by simp; omega⟩⟩, by omega⟩⟩
    . rintro ⟨m, _⟩ _ em
      simp only at em ⊢
      rw [← em, decide_eq_false hk]
      refine ⟨fun hm => ⟨⟨by omega, by omega, ⟨by omega, by omega, by simp [hm]; omega⟩, ⟨by omega, by omega, by simp; exact hn⟩⟩, by omega⟩, fun hm => ⟨⟨by omega, by omega, ⟨by omega, by omega, by simp [hm]; exact hc⟩, ⟨by omega, by omega, by simp; exact hn⟩⟩, by omega⟩⟩
  rw [List.take_of_length_le (by omega)] at hc hn
  refine ⟨fun h => (check_out (g := (g, s)) hg hP hX (hn.1 h.1) (hc.1 h.2)).symm, fun h => ?_⟩
  have hnn : ¬ ((p.any fun t => decide (t.1 = g)) = true ∧ (p.any fun t => allT t (g, s)) = false) := by
    rintro ⟨q1, q2⟩
    rw [decide_eq_true (hn.2 q1), decide_eq_true (hc.2 q2)] at h
    cases h
  clear i0 i1 hge c0 c1 hc n0 n1 hn
  refine ⟨fun y _ => 0 ≤ y.1 ∧ y.1 ≤ x.length ∧ (∀ j : Nat, j < y.1.toNat → someT (x.getD j (0, [])) (g, s) = false), fun y _ => ((x.length : Int) - y.1).toNat, ⟨Int.le_refl 0, by simp only; omega, fun j h => by simp at h⟩, ?_⟩
  rintro ⟨i, q1, q2, _⟩ z _ ⟨i0, i1, hi⟩
  simp only at i0 i1 hi ⊢
  refine ⟨fun hlt => ⟨⟨i0, hlt⟩, ⟨lenT_gd ex _, hs⟩, ?_⟩, fun hge => ?_⟩
  . rintro ⟨m, _⟩ _ em
    simp only at em ⊢
    rw [wrapK (i + 1) (by omega) (by omega)]
    refine ⟨fun hm => ?_, fun hm => ⟨⟨by omega, by omega, fun j hj => ?_⟩, by omega⟩⟩
    . rw [check_in (g := (g, s)) hg hP hX hnn (i := i.toNat) (by omega) hi (by rw [← hm, em])]
      congr 1
      omega
    . by_cases e : j < i.toNat
      . exact hi j e
      . rw [show j = i.toNat by omega, ← hm, em]
  . exact (check_ok (g := (g, s)) hg hP hX hnn fun j hj => hi j (by omega)).symm
theorem h24 : c_r14_Check.ok Tryz.prog GL 24 := conO_ok (H := {}) (mkEnvO_ok (gl := GL) (l := [(39, conSem c_r13_May), (12, conSem c_r14_May), (14, conSem c_r14_All), (16, conSem c_r14_Some)]) (q := []) (d := []) _ [1000000] tyOk (by kernel_rfl) ⟨h39.call, h12.call, h14.call, h16.call, trivial⟩ trivial trivial) (by kernel_rfl) (by kernel_rfl) (Eq.mp e24 k24)
def t23 : Prop :=
  ∀ (x : q49), (q438 x) -> ((List.length x.1 <= q153 /\ ∀ (t : q21), t ∈ x.1 -> List.length t.2 <= q153) /\ (List.length x.2.1 <= q153 /\ ∀ (t : q21), t ∈ x.2.1 -> List.length t.2 <= q153) /\
  List.length x.2.2.1 <= q153 /\ ∀ (t : q21), t ∈ x.2.2.1 -> List.length t.2 <= q153) -> ∃ (I : q29), ∃ (μ : q30), (x.1 = x.1 /\ x.2.1 = x.2.1 /\ x.2.2.1 = x.2.2.1 /\ I (q56, q56, q56, q56,
  ()) ()) /\ ∀ (y : q24) (z : Unit), (q229 y) -> True -> I y z -> (decide (y.1 < (lnZ x.2.2.1)) = true -> (q56 <= y.1 /\ y.1 < (lnZ x.2.2.1)) /\ (q437 x y) /\ (∀ (y_1 : q7), (q113 y_1) ->
  (y_1.1, y_1.2.1) = checkT x.1 x.2.1 (q439 x y) -> (decide (y_1.2.1 ≠ q56) = true -> (y.1, y_1.1, y_1.2.1) = rowT x.1 x.2.1 x.2.2.1 q91) /\ (decide (y_1.2.1 ≠ q56) = false -> x.1 = x.1 /\
  x.2.1 = x.2.1 /\ x.2.2.1 = x.2.2.1 /\ I (wrZ (y.1 + q92), y.2.1, y.2.2.1, y.2.2.2.1, ()) () /\ μ (wrZ (y.1 + q92), y.2.1, y.2.2.1, y.2.2.2.1, ()) () < μ y z)) /\ True) /\ (decide (y.1 <
  (lnZ x.2.2.1)) = false -> (q56, q56, q56) = rowT x.1 x.2.1 x.2.2.1 q91)
theorem e23 : t23 = Con.vc c_r14_Row GL (mkEnvO ty [(24, conSem c_r14_Check)] [] [] [0, 1, 2, 6, 7, 8, 9, 10, 11, 15, 29] [1000000]) {} Tryz.f23.ntmps Tryz.f23.results.toList (bodyOf Tryz.f23) := by kernel_rfl
theorem k23 : t23 := by
  unfold t23
  delta q49 q438 q153 q21 q29 q30 q56 q24 q229 lnZ q437 q7 q113 q439 q91 wrZ q92 q508 wiZ q514 q470 q572
  rintro ⟨p, x, l, _⟩ hx hp
  obtain ⟨hp1, hp2, ll, el⟩ := hp
  simp only at hp1 hp2 ll el
  clear hx
  try dsimp +instances only [dft_int, dft_sl, dft_str]
  simp only [true_and, and_true, eq_self_iff_true, implies_true, reduceCtorEq, false_implies, true_implies, decide_eq_true_eq, decide_eq_false_iff_not, beq_self_eq_true, Bool.not_eq_true', ne_eq, Decidable.not_not, List.nil_append, List.length_singleton, List.length_cons, List.length_nil, Nat.zero_add, Nat.add_zero, Nat.mul_one, and_self, beq_iff_eq, Bool.not_true, Bool.not_false, Bool.not_eq_false', Bool.cond_false_right, Bool.and_eq_true, imp_self, Bool.not_eq_true, Bool.cond_true_left, Bool.or_eq_true]
  have hdft : ((Kd.int IntKind.i64).pair Kd.str).dft = ((0 : Int), ([] : List Int)) := rfl
  simp only [hdft]
  refine ⟨fun y _ => 0 ≤ y.1 ∧ y.1 ≤ l.length ∧ ∀ j : Nat, j < y.1.toNat → (checkT p x (l.getD j (0, []))).2 = 0, fun y _ => ((l.length : Int) - y.1).toNat, ⟨Int.le_refl 0, by simp only; omega, fun j h => by simp at h⟩, ?_⟩
  rintro ⟨i, a, b, c, _⟩ z _ ⟨i0, i1, hi⟩
  simp only at i0 i1 hi ⊢
  refine ⟨fun hlt => ⟨⟨i0, hlt⟩, ⟨hp1, hp2, lenT_gd el _⟩, ?_⟩, fun hge => (row_none p x l 0 fun j hj => hi j (by omega)).symm⟩
  rintro ⟨v, e, _⟩ _ hv
  simp only at hv ⊢
  rw [wrapK (i + 1) (by omega) (by omega)]
  refine ⟨fun he => ?_, fun he => ⟨⟨by omega, by omega, fun j hj => ?_⟩, by omega⟩⟩
  . rw [row_from p x l 0 i.toNat (by omega) hi (by rw [← hv]; exact he), ← hv]
    congr 1
    omega
  . by_cases e1 : j < i.toNat
    . exact hi j e1
    . rw [show j = i.toNat by omega, ← hv]; exact he
theorem h23 : c_r14_Row.ok Tryz.prog GL 23 := conO_ok (H := {}) (mkEnvO_ok (gl := GL) (l := [(24, conSem c_r14_Check)]) (q := []) (d := []) _ [1000000] tyOk (by kernel_rfl) ⟨h24.call, trivial⟩ trivial trivial) (by kernel_rfl) (by kernel_rfl) (Eq.mp e23 k23)
end Go.Proofs.YtgnlcpoeepfdoaaGreatDoor
end
section
namespace Go.Proofs.YtgnlcpoeepfdoaaGreatDoor
open Go Go.Vc Go.Pl Go.Proofs
def c_law14_WithinChecks : Con := { args := [.dat (.sl GT), .dat (.sl GT), .dat (.sl GT)], res := [.dat .bool], pre := fun x => ABulk [.dat (.sl GT), .dat (.sl GT), .dat (.sl GT)] x ≤ 1048576, post := fun _ y => y.1 = true }
end Go.Proofs.YtgnlcpoeepfdoaaGreatDoor
end
section
namespace Go.Proofs.YtgnlcpoeepfdoaaGreatDoor
open Go Go.Vc Go.Pl Go.Proofs
set_option linter.unusedVariables false
set_option linter.unusedSimpArgs false
set_option maxHeartbeats 4000000
theorem bulk_len (l : List (Int × List Int)) : l.length ≤ Kd.bulk (.sl GT) l := by
  show l.length ≤ (l.map (Kd.bulk GT)).sum + 1
  induction l with
  | nil => simp
  | cons a l ih =>
    rw [List.map_cons, List.sum_cons, List.length_cons]
    have : Kd.bulk GT a = 1 + (a.2.length + 1) := rfl
    omega
theorem lenT_bulk {l : List (Int × List Int)} (h : Kd.bulk (.sl GT) l ≤ 1048576) : l.length ≤ 100000000 ∧ ∀ t ∈ l, t.2.length ≤ 100000000 := by
  refine ⟨by have := bulk_len l; omega, fun t ht => ?_⟩
  have h' : (l.map (Kd.bulk GT)).sum + 1 ≤ 1048576 := h
  have h2 : Kd.bulk GT t ≤ (l.map (Kd.bulk GT)).sum := by
    clear h h'
    induction l with
    | nil => cases ht
    | cons a l ih =>
      rw [List.map_cons, List.sum_cons]
      rcases List.mem_cons.1 ht with rfl | ht
      . omega
      . have := ih ht; omega
  have : Kd.bulk GT t = 1 + (t.2.length + 1) := rfl
  omega
abbrev q442 (p0 : q7) (p1 : q7) (p2 : q49) (p3 : q10) := (bif bif decide (p0.1 ≠ p1.1) then true else decide (p0.2.1 ≠ p1.2.1) then true else !(decide ((List.getD ([] ++ p2.2.2.1) (q507 p3)
  q470).1 = (List.getD p2.2.2.1 (q507 p3) q470).1) && decide ((List.getD ([] ++ p2.2.2.1) (q507 p3) q470).2 = (List.getD p2.2.2.1 (q507 p3) q470).2)))
abbrev q443 (p0 : q49) (p1 : q10) := (!(decide ((List.getD ([] ++ p0.2.1) (q507 p1) q470).1 = (List.getD p0.2.1 (q507 p1) q470).1) && decide ((List.getD ([] ++ p0.2.1) (q507 p1) q470).2 =
  (List.getD p0.2.1 (q507 p1) q470).2)))
abbrev q444 (p0 : q49) (p1 : q10) := (!(decide ((List.getD ([] ++ p0.1) (q507 p1) q470).1 = (List.getD p0.1 (q507 p1) q470).1) && decide ((List.getD ([] ++ p0.1) (q507 p1) q470).2 =
  (List.getD p0.1 (q507 p1) q470).2)))
abbrev q552 (p0 : q7) (p1 : q7) := (bif decide (p0.1 ≠ p1.1) then true else decide (p0.2.1 ≠ p1.2.1))
abbrev q445 (p0 : q7) (p1 : q7) := ((q552 p0 p1) = false -> ((q552 p0 p1) == false) = true /\ True)
abbrev q446 (p0 : q7) (p1 : q7) := ((q552 p0 p1) = false -> True)
abbrev q447 (p0 : q49) (p1 : q10) := (List.getD p0.2.2.1 (q507 p1) q470)
abbrev q448 (p0 : q7) (p1 : q7) := ((q552 p0 p1) == false)
abbrev q449 (p0 : q27) (p1 : q27) := ((bif decide (p0.1 ≠ p1.1) then true else decide (p0.2.1 ≠ p1.2.1)) == false)
abbrev q450 (p0 : q7) (p1 : q7) := (bif decide (p0.1 ≠ p1.1) then true else decide (p0.2.1 ≠ p1.2.1))
abbrev q451 (p0 : q27) (p1 : q27) := (bif decide (p0.1 ≠ p1.1) then true else decide (p0.2.1 ≠ p1.2.1))
def t7 : Prop :=
  ∀ (x : q49), (q438 x) -> ABulk [AK.dat q294, AK.dat q294, AK.dat q294] x <= (1048576 : Nat) -> q91 < q93 /\ (q91 + List.length x.1) * (24 : Nat) <= q152 /\ q91 + List.length x.1 <= q151 /\
  q91 < q93 /\ (q91 + List.length x.2.1) * (24 : Nat) <= q152 /\ q91 + List.length x.2.1 <= q151 /\ q91 < q93 /\ (q91 + List.length x.2.2.1) * (24 : Nat) <= q152 /\ q91 + List.length x.2.2.1
  <= q151 /\ ((List.length ([] ++ x.1) <= q153 /\ ∀ (t : q21), t ∈ [] ++ x.1 -> List.length t.2 <= q153) /\ (List.length ([] ++ x.2.1) <= q153 /\ ∀ (t : q21), t ∈ [] ++ x.2.1 -> List.length
  t.2 <= q153) /\ List.length ([] ++ x.2.2.1) <= q153 /\ ∀ (t : q21), t ∈ [] ++ x.2.2.1 -> List.length t.2 <= q153) /\ (∀ (y : q27), (q248 y) -> (y.1, y.2.1, y.2.2.1) = rowT ([] ++ x.1) ([]
  ++ x.2.1) ([] ++ x.2.2.1) q91 -> ((List.length x.1 <= q153 /\ ∀ (t : q21), t ∈ x.1 -> List.length t.2 <= q153) /\ (List.length x.2.1 <= q153 /\ ∀ (t : q21), t ∈ x.2.1 -> List.length t.2 <=
  q153) /\ List.length x.2.2.1 <= q153 /\ ∀ (t : q21), t ∈ x.2.2.1 -> List.length t.2 <= q153) /\ (∀ (y_1 : q27), (q248 y_1) -> (y_1.1, y_1.2.1, y_1.2.2.1) = rowT x.1 x.2.1 x.2.2.1 q91 ->
  (decide (y.1 ≠ y_1.1) = false -> True) /\ (decide (y.1 ≠ y_1.1) = false -> True) /\ (decide (y.1 ≠ y_1.1) = false -> (decide (y.1 ≠ y_1.1) == false) = true /\ (decide (y.1 ≠ y_1.1) ==
  false) = true /\ True) /\ (decide (y.1 ≠ y_1.1) = false -> (decide (y.1 ≠ y_1.1) == false) = true) /\ ((q451 y y_1) = false -> True) /\ ((q451 y y_1) = false -> True) /\ ((q451 y y_1) =
  false -> (q449 y y_1) = true /\ (q449 y y_1) = true /\ True) /\ ((q451 y y_1) = false -> (q449 y y_1) = true) /\ ((bif bif decide (y.1 ≠ y_1.1) then true else decide (y.2.1 ≠ y_1.2.1) then
  true else decide (y.2.2.1 ≠ y_1.2.2.1)) = true -> false = true) /\ ((bif bif decide (y.1 ≠ y_1.1) then true else decide (y.2.1 ≠ y_1.2.1) then true else decide (y.2.2.1 ≠ y_1.2.2.1)) =
  false -> ∃ (I : q8), ∃ (μ : q9), (Value.bool false = Value.bool false /\ y_1.2.2.1 = y_1.2.2.1 /\ y_1.2.1 = y_1.2.1 /\ y_1.1 = y_1.1 /\ y.2.2.1 = y.2.2.1 /\ y.2.1 = y.2.1 /\ y.1 = y.1 /\
  x.1 = x.1 /\ x.2.1 = x.2.1 /\ x.2.2.1 = x.2.2.1 /\ [] ++ x.1 = [] ++ x.1 /\ [] ++ x.2.1 = [] ++ x.2.1 /\ [] ++ x.2.2.1 = [] ++ x.2.2.1 /\ I (q56, false, ()) ()) /\ ∀ (y_2 : q10) (z : Unit),
  (q102 y_2) -> True -> I y_2 z -> (decide (y_2.1 < (lnZ x.2.2.1)) = true -> (q56 <= y_2.1 /\ y_2.1 < (lnZ x.2.2.1)) /\ ((List.length ([] ++ x.1) <= q153 /\ ∀ (t : q21), t ∈ [] ++ x.1 ->
  List.length t.2 <= q153) /\ (List.length ([] ++ x.2.1) <= q153 /\ ∀ (t : q21), t ∈ [] ++ x.2.1 -> List.length t.2 <= q153) /\ List.length (q447 x y_2).2 <= q153) /\ (∀ (y_3 : q7), (q113
  y_3) -> (y_3.1, y_3.2.1) = checkT ([] ++ x.1) ([] ++ x.2.1) (q447 x y_2) -> (q56 <= y_2.1 /\ y_2.1 < (lnZ x.2.2.1)) /\ ((List.length x.1 <= q153 /\ ∀ (t : q21), t ∈ x.1 -> List.length t.2
  <= q153) /\ (List.length x.2.1 <= q153 /\ ∀ (t : q21), t ∈ x.2.1 -> List.length t.2 <= q153) /\ List.length (q447 x y_2).2 <= q153) /\ (∀ (y_4 : q7), (q113 y_4) -> (y_4.1, y_4.2.1) = checkT
  x.1 x.2.1 (q447 x y_2) -> (decide (y_3.1 ≠ y_4.1) = false -> True) /\ (decide (y_3.1 ≠ y_4.1) = false -> True) /\ (decide (y_3.1 ≠ y_4.1) = false -> (decide (y_3.1 ≠ y_4.1) == false) = true
  /\ (decide (y_3.1 ≠ y_4.1) == false) = true /\ True) /\ (decide (y_3.1 ≠ y_4.1) = false -> (decide (y_3.1 ≠ y_4.1) == false) = true) /\ (q446 y_3 y_4) /\ (q446 y_3 y_4) /\ ((q450 y_3 y_4) =
  false -> (q448 y_3 y_4) = true /\ (q448 y_3 y_4) = true /\ (q56 <= y_2.1 /\ y_2.1 < (lnZ ([] ++ x.2.2.1))) /\ True) /\ (q445 y_3 y_4) /\ (q446 y_3 y_4) /\ (q446 y_3 y_4) /\ ((q450 y_3 y_4)
  = false -> (q448 y_3 y_4) = true /\ (q448 y_3 y_4) = true /\ (q56 <= y_2.1 /\ y_2.1 < (lnZ x.2.2.1)) /\ True) /\ (q445 y_3 y_4) /\ ((q450 y_3 y_4) = false -> (q448 y_3 y_4) = true /\ (q448
  y_3 y_4) = true /\ True) /\ ((q450 y_3 y_4) = false -> (q448 y_3 y_4) = true) /\ ((q442 y_3 y_4 x y_2) = true -> false = true) /\ ((q442 y_3 y_4 x y_2) = false -> Value.bool false =
  Value.bool false /\ y_1.2.2.1 = y_1.2.2.1 /\ y_1.2.1 = y_1.2.1 /\ y_1.1 = y_1.1 /\ y.2.2.1 = y.2.2.1 /\ y.2.1 = y.2.1 /\ y.1 = y.1 /\ x.1 = x.1 /\ x.2.1 = x.2.1 /\ x.2.2.1 = x.2.2.1 /\ []
  ++ x.1 = [] ++ x.1 /\ [] ++ x.2.1 = [] ++ x.2.1 /\ [] ++ x.2.2.1 = [] ++ x.2.2.1 /\ I (wrZ (q104 y_2), y_2.2.1, ()) () /\ μ (wrZ (q104 y_2), y_2.2.1, ()) () < μ y_2 z)) /\ True) /\ True) /\
  (decide (y_2.1 < (lnZ x.2.2.1)) = false -> ∃ (I : q8), ∃ (μ : q9), (Value.bool false = Value.bool false /\ y_2.1 = y_2.1 /\ Value.bool false = Value.bool false /\ y_1.2.2.1 = y_1.2.2.1 /\
  y_1.2.1 = y_1.2.1 /\ y_1.1 = y_1.1 /\ y.2.2.1 = y.2.2.1 /\ y.2.1 = y.2.1 /\ y.1 = y.1 /\ x.1 = x.1 /\ x.2.1 = x.2.1 /\ x.2.2.1 = x.2.2.1 /\ [] ++ x.1 = [] ++ x.1 /\ [] ++ x.2.1 = [] ++
  x.2.1 /\ [] ++ x.2.2.1 = [] ++ x.2.2.1 /\ I (q56, y_2.2.1, ()) ()) /\ ∀ (y_3 : q10) (z : Unit), (q102 y_3) -> True -> I y_3 z -> (decide (y_3.1 < (lnZ ([] ++ x.1))) = true -> (q56 <= y_3.1
  /\ y_3.1 < (lnZ ([] ++ x.1))) /\ (q56 <= y_3.1 /\ y_3.1 < (lnZ x.1)) /\ ((q444 x y_3) = true -> false = true) /\ ((q444 x y_3) = false -> Value.bool false = Value.bool false /\ y_2.1 =
  y_2.1 /\ Value.bool false = Value.bool false /\ y_1.2.2.1 = y_1.2.2.1 /\ y_1.2.1 = y_1.2.1 /\ y_1.1 = y_1.1 /\ y.2.2.1 = y.2.2.1 /\ y.2.1 = y.2.1 /\ y.1 = y.1 /\ x.1 = x.1 /\ x.2.1 = x.2.1
  /\ x.2.2.1 = x.2.2.1 /\ [] ++ x.1 = [] ++ x.1 /\ [] ++ x.2.1 = [] ++ x.2.1 /\ [] ++ x.2.2.1 = [] ++ x.2.2.1 /\ I (wrZ (q104 y_3), y_3.2.1, ()) () /\ μ (wrZ (q104 y_3), y_3.2.1, ()) () < μ
  y_3 z)) /\ (decide (y_3.1 < (lnZ ([] ++ x.1))) = false -> ∃ (I : q8), ∃ (μ : q9), (Value.bool false = Value.bool false /\ y_3.1 = y_3.1 /\ Value.bool false = Value.bool false /\ y_2.1 =
  y_2.1 /\ Value.bool false = Value.bool false /\ y_1.2.2.1 = y_1.2.2.1 /\ y_1.2.1 = y_1.2.1 /\ y_1.1 = y_1.1 /\ y.2.2.1 = y.2.2.1 /\ y.2.1 = y.2.1 /\ y.1 = y.1 /\ x.1 = x.1 /\ x.2.1 = x.2.1
  /\ x.2.2.1 = x.2.2.1 /\ [] ++ x.1 = [] ++ x.1 /\ [] ++ x.2.1 = [] ++ x.2.1 /\ [] ++ x.2.2.1 = [] ++ x.2.2.1 /\ I (q56, y_3.2.1, ()) ()) /\ ∀ (y_4 : q10) (z : Unit), (q102 y_4) -> True -> I
  y_4 z -> (decide (y_4.1 < (lnZ ([] ++ x.2.1))) = true -> (q56 <= y_4.1 /\ y_4.1 < (lnZ ([] ++ x.2.1))) /\ (q56 <= y_4.1 /\ y_4.1 < (lnZ x.2.1)) /\ ((q443 x y_4) = true -> false = true) /\
  ((q443 x y_4) = false -> Value.bool false = Value.bool false /\ y_3.1 = y_3.1 /\ Value.bool false = Value.bool false /\ y_2.1 = y_2.1 /\ Value.bool false = Value.bool false /\ y_1.2.2.1 =
  y_1.2.2.1 /\ y_1.2.1 = y_1.2.1 /\ y_1.1 = y_1.1 /\ y.2.2.1 = y.2.2.1 /\ y.2.1 = y.2.1 /\ y.1 = y.1 /\ x.1 = x.1 /\ x.2.1 = x.2.1 /\ x.2.2.1 = x.2.2.1 /\ [] ++ x.1 = [] ++ x.1 /\ [] ++ x.2.1
  = [] ++ x.2.1 /\ [] ++ x.2.2.1 = [] ++ x.2.2.1 /\ I (wrZ (q104 y_4), y_4.2.1, ()) () /\ μ (wrZ (q104 y_4), y_4.2.1, ()) () < μ y_4 z)) /\ (decide (y_4.1 < (lnZ ([] ++ x.2.1))) = false ->
  True /\ (∀ (y : q4), (q67 y) -> y.1 = true -> y.1 = true) /\ True))))) /\ True) /\ True
theorem e7 : t7 = Con.vc c_law14_WithinChecks GL (mkEnvO ty [(22, conSem c_within_Row), (23, conSem c_r14_Row), (21, conSem c_within_Check), (24, conSem c_r14_Check), (10, conSem c_law14_works)] [] [] [0, 1, 2, 6, 7, 8, 9, 10, 11, 12, 13, 14, 15, 16, 17, 18, 19, 20, 21, 22, 60, 64, 105, 109, 120, 124, 135] [1000000]) {} Tryz.f7.ntmps Tryz.f7.results.toList (bodyOf Tryz.f7) := by kernel_rfl
theorem k7 : t7 := by
  unfold t7
  delta q49 q438 q294 q91 q93 q152 q151 q153 q21 q27 q248 q451 q449 q8 q9 q56 q10 q102 lnZ q447 q7 q113 q446 q450 q448 q445 q442 wrZ q104 q444 q443 q4 q67 q508 q489 wiZ wbZ q507 q470 q552 q491 q572 q566
  rintro ⟨p, x, l, _⟩ hx hp
  have hq : Kd.bulk (.sl GT) p + (Kd.bulk (.sl GT) x + (Kd.bulk (.sl GT) l + 0)) ≤ 1048576 := hp
  have lp := lenT_bulk (l := p) (by omega)
  have lx := lenT_bulk (l := x) (by omega)
  have ll := lenT_bulk (l := l) (by omega)
  clear hp hx
  try dsimp +instances only [dft_int, dft_sl, dft_str]
  simp only [true_and, and_true, eq_self_iff_true, implies_true, reduceCtorEq, false_implies, true_implies, decide_eq_true_eq, decide_eq_false_iff_not, beq_self_eq_true, Bool.not_eq_true', ne_eq, Decidable.not_not, List.nil_append, List.length_singleton, List.length_cons, List.length_nil, Nat.zero_add, Nat.add_zero, Nat.mul_one, and_self, beq_iff_eq, Bool.not_true, Bool.not_false, Bool.not_eq_false', Bool.cond_false_right, Bool.and_eq_true, imp_self, Bool.not_eq_true, Bool.cond_true_left, Bool.or_eq_true]
  have hl1 := lp.1
  have hl2 := lx.1
  have hl3 := ll.1
  have hpl : p.length ≤ 1048576 ∧ x.length ≤ 1048576 ∧ l.length ≤ 1048576 := by
    have a1 := bulk_len p
    have a2 := bulk_len x
    have a3 := bulk_len l
    omega
  obtain ⟨b1, b2, b3⟩ := hpl
  have hdft : ((Kd.int IntKind.i64).pair Kd.str).dft = ((0 : Int), ([] : List Int)) := rfl
  simp only [hdft]
  refine ⟨by decide, by omega, by omega, by decide, by omega, by omega, by decide, by omega, by omega, ⟨lp, lx, ll⟩, ?_⟩
  rintro ⟨a, b, c, _⟩ _ h1
  refine ⟨⟨lp, lx, ll⟩, ?_⟩
  rintro ⟨a', b', c', _⟩ _ h2
  simp only at h1 h2 ⊢
  have e := h1.trans h2.symm
  simp only [Prod.mk.injEq] at e
  obtain ⟨rfl, rfl, rfl⟩ := e
  refine ⟨fun h => by simp at h, fun _ => ?_⟩
  refine ⟨fun y _ => 0 ≤ y.1 ∧ y.1 ≤ l.length, fun y _ => ((l.length : Int) - y.1).toNat, ⟨Int.le_refl 0, by simp only; omega⟩, ?_⟩
  rintro ⟨i, q, _⟩ z _ ⟨i0, i1⟩
  simp only at i0 i1 ⊢
  refine ⟨fun hlt => ⟨⟨i0, hlt⟩, ⟨lp, lx, lenT_gd ll.2 _⟩, ?_⟩, fun _ => ?_⟩
  . rintro ⟨v, e, _⟩ _ h3
    refine ⟨⟨i0, hlt⟩, ⟨lp, lx, lenT_gd ll.2 _⟩, ?_⟩
    rintro ⟨v', e', _⟩ _ h4
    simp only at h3 h4 ⊢
    have e := h3.trans h4.symm
    simp only [Prod.mk.injEq] at e
    obtain ⟨rfl, rfl⟩ := e
    rw [wrapK (i + 1) (by omega) (by omega)]
    refine ⟨fun h => ⟨h, h, i0, hlt⟩, fun h => ⟨h, h, i0, hlt⟩, fun h => by simp at h, fun _ => ⟨⟨by omega, by omega⟩, by omega⟩⟩
  . refine ⟨fun y _ => 0 ≤ y.1 ∧ y.1 ≤ p.length, fun y _ => ((p.length : Int) - y.1).toNat, ⟨Int.le_refl 0, by simp only; omega⟩, ?_⟩
    rintro ⟨j, q2, _⟩ z _ ⟨j0, j1⟩
    simp only at j0 j1 ⊢
    refine ⟨fun hlt => ⟨⟨j0, hlt⟩, ⟨j0, hlt⟩, fun h => by simp at h, ?_⟩, fun _ => ?_⟩
    . rw [wrapK (j + 1) (by omega) (by omega)]
      exact ⟨⟨by omega, by omega⟩, by omega⟩
    . refine ⟨fun y _ => 0 ≤ y.1 ∧ y.1 ≤ x.length, fun y _ => ((x.length : Int) - y.1).toNat, ⟨Int.le_refl 0, by simp only; omega⟩, ?_⟩
      rintro ⟨k, q3, _⟩ z _ ⟨k0, k1⟩ hlt
      simp only at k0 k1 hlt ⊢
      rw [wrapK (k + 1) (by omega) (by omega)]
      exact ⟨⟨k0, hlt⟩, ⟨k0, hlt⟩, fun h => by simp at h, ⟨⟨by omega, by omega⟩, by omega⟩⟩
theorem h7 : c_law14_WithinChecks.ok Tryz.prog GL 7 := conO_ok (H := {}) (mkEnvO_ok (gl := GL) (l := [(22, conSem c_within_Row), (23, conSem c_r14_Row), (21, conSem c_within_Check), (24, conSem c_r14_Check), (10, conSem c_law14_works)]) (q := []) (d := []) _ [1000000] tyOk (by kernel_rfl) ⟨h22.call, h23.call, h21.call, h24.call, h10.call, trivial⟩ trivial trivial) (by kernel_rfl) (by kernel_rfl) (Eq.mp e7 k7)
end Go.Proofs.YtgnlcpoeepfdoaaGreatDoor
end
section
namespace Go.Proofs.YtgnlcpoeepfdoaaGreatDoor
open Go Go.Vc Go.Pl Go.Proofs
set_option maxRecDepth 100000 in
theorem glOk {w : World} (hL : laidMetH Tryz.prog [("unicode/utf8.acceptRanges", Rows.laid_unicode_utf8_acceptRanges), ("unicode/utf8.first", Rows.laid_unicode_utf8_first)] w) (hS : w.ShapedOpen Tryz.prog) : GlOk GL w (fun _ => False) := by
  have hL : laidMet Tryz.prog [("unicode/utf8.acceptRanges", Rows.laid_unicode_utf8_acceptRanges), ("unicode/utf8.first", Rows.laid_unicode_utf8_first)] w := hL
  have h0 := Lib.laidMet.reads hL (n := "unicode/utf8.first") (d := Rows.laid_unicode_utf8_first) (by simp)
  have h1 := Lib.laidMet.reads hL (n := "unicode/utf8.acceptRanges") (d := Rows.laid_unicode_utf8_acceptRanges) (by simp)
  obtain ⟨m, hm⟩ := Tryz.laysM219.s1_3 w hS
  have hm : w.cell? ⟨0, 0, none⟩ = some (.int .i64 m) := hm
  obtain ⟨fs, hs, hf, ho⟩ := pairB_eq (P := Tryz.prog) (e := 141) (k := .u8) (by kernel_rfl)
  have k0 := gl_ints (P := Tryz.prog) (w := w) (g := 1) (t := 139) (e := 5) (n := 256) (k := .u8) (zs := Lib.firstTab) (by kernel_rfl) (by kernel_rfl) (by kernel_rfl) (by kernel_rfl) (by kernel_rfl) (by kernel_rfl) (by kernel_rfl) (of_decide_eq_true (by kernel_rfl)) (by kernel_rfl) h0
  have k1 := gl_pairs (P := Tryz.prog) (w := w) (g := 2) (t := 142) (e := 141) (n := 16) (k := .u8) (zs := accTab) (by kernel_rfl) (by kernel_rfl) (by kernel_rfl) hs hf ho (by kernel_rfl) (by kernel_rfl) (by kernel_rfl) (of_decide_eq_true (by kernel_rfl)) (by kernel_rfl) (by kernel_rfl) h1
  intro g v hg
  rcases gl_cons hg with ⟨rfl, rfl⟩ | hg
  . exact k0
  rcases gl_cons hg with ⟨rfl, rfl⟩ | hg
  . exact k1
  obtain ⟨rfl, rfl⟩ := gl_one hg
  exact ⟨cell_lt hm, id, m, hm⟩
end Go.Proofs.YtgnlcpoeepfdoaaGreatDoor
end
section
namespace Go.Proofs.YtgnlcpoeepfdoaaGreatDoor
open Go Go.Vc Go.Pl Go.Proofs
end Go.Proofs.YtgnlcpoeepfdoaaGreatDoor
end
