/- Texts of a verified walk, led together: Within3A, Within3W. -/
import Derived.Test.YtgnlcpoeepfdoaaGreatDoorZW10
import Derived.Test.YtgnlcpoeepfdoaaGreatDoorZV16
set_option linter.unusedVariables false
set_option linter.unusedSimpArgs false
section
namespace Go.Proofs.YtgnlcpoeepfdoaaGreatDoor
open Go Go.Vc Go.Pl Go.Proofs
def c_within_Check : Con := { args := [.dat (.sl GT), .dat (.sl GT), .dat GT], res := [.dat I64, .dat I64], pre := fun x => lenTB x.1 = true ∧ lenTB x.2.1 = true ∧ x.2.2.1.2.length ≤ 100000000, post := fun x y => (y.1, y.2.1) = checkT x.1 x.2.1 x.2.2.1 }
end Go.Proofs.YtgnlcpoeepfdoaaGreatDoor
end
section
namespace Go.Proofs.YtgnlcpoeepfdoaaGreatDoor
open Go Go.Vc Go.Pl Go.Proofs
set_option linter.unusedVariables false
set_option linter.unusedSimpArgs false
set_option maxHeartbeats 2000000
theorem lenT_gd {l : List (Int × List Int)} (h : ∀ t ∈ l, t.2.length ≤ 100000000) (i : Nat) : (l.getD i (0, [])).2.length ≤ 100000000 := by
  by_cases hi : i < l.length
  . exact h _ (gd_mem hi)
  . rw [List.getD_eq_getElem?_getD, List.getElem?_eq_none (by omega)]
    decide
abbrev q22 := (Int × Int × Int × Unit -> (Int × List Int × Unit) × Unit -> Prop)
abbrev q23 := (Int × Int × Int × Unit -> (Int × List Int × Unit) × Unit -> Nat)
abbrev q24 := (Int × Int × Int × Unit)
abbrev q25 := ((Int × List Int × Unit) × Unit)
abbrev q26 := (Int × Bool × Int × Int × Unit -> (Int × List Int × Unit) × Unit -> Prop)
abbrev q27 := (Int × Bool × Int × Int × Unit -> (Int × List Int × Unit) × Unit -> Nat)
abbrev q28 := (Int × Bool × Bool × Unit -> (Int × List Int × Unit) × Unit -> Prop)
abbrev q29 := (Int × Bool × Bool × Unit -> (Int × List Int × Unit) × Unit -> Nat)
abbrev q294 := (Kd.dft (Kd.sl q303))
abbrev q210 (p0 : List (Int × List Int) × List (Int × List Int) × (Int × List Int) × Unit) (p1 : q24) := (List.getD (List.getD [p0.1, p0.2.1] q252 q294) (Int.toNat p1.1) q241)
abbrev q211 (p0 : List (Int × List Int) × List (Int × List Int) × (Int × List Int) × Unit) (p1 : Int × Bool × Int × Int × Unit) := (List.getD (List.getD [p0.1, p0.2.1] (1 : Nat) q294)
  (Int.toNat p1.1) q241)
abbrev q212 (p0 : List (Int × List Int) × List (Int × List Int) × (Int × List Int) × Unit) (p1 : q24) (p2 : q25) := (List.length (List.getD p0.2.1 (Int.toNat p1.1) q241).2 <= q260 /\
  List.length p2.1.2.1 <= q260)
abbrev q213 (p0 : List (Int × List Int) × List (Int × List Int) × (Int × List Int) × Unit) (p1 : q20) (p2 : q25) := (List.length (List.getD p0.1 (Int.toNat p1.1) q241).2 <= q260 /\
  List.length p2.1.2.1 <= q260)
abbrev q214 (p0 : List (Int × List Int) × List (Int × List Int) × (Int × List Int) × Unit) := (lnZ (List.getD [p0.1, p0.2.1] q252 q294))
abbrev q215 (p0 : List (Int × List Int) × List (Int × List Int) × (Int × List Int) × Unit) := (lnZ (List.getD [p0.1, p0.2.1] (1 : Nat) q294))
abbrev q216 (p0 : List (Int × List Int) × List (Int × List Int) × (Int × List Int) × Unit) := (lnZ (List.getD [p0.1, p0.2.1] q267 q294))
abbrev q217 (p0 : List (Int × List Int) × List (Int × List Int) × (Int × List Int) × Unit) (p1 : q20) (p2 : q25) := ((List.getD p0.1 (Int.toNat p1.1) q241).1 = p2.1.1)
abbrev q218 (p0 : q20) := (p0.2.2.1 = false -> (p0.2.2.1 == false) = true /\ (p0.2.2.1 == false) = true /\ True)
abbrev q219 (p0 : List (Int × List Int) × List (Int × List Int) × (Int × List Int) × Unit) (p1 : q24) := (List.getD p0.2.1 (Int.toNat p1.1) q241)
abbrev q220 (p0 : List (Int × List Int) × List (Int × List Int) × (Int × List Int) × Unit) (p1 : q20) := (List.getD p0.1 (Int.toNat p1.1) q241)
abbrev q221 (p0 : q20) := (p0.2.2.1 = false -> (p0.2.2.1 == false) = true /\ True)
abbrev q222 := (Kd.dft (Kd.sl q303))
abbrev q223 (p0 : q20) := (bif p0.2.2.1 then !p0.2.1 else false)
abbrev q224 (p0 : q25) := (wiZ p0.1.1 /\ wsZ p0.1.2.1 /\ True)
def t21 : Prop :=
  ∀ (x : List q93 × List q93 × q93 × Unit), (Kd.wf q91 x.1 /\ Kd.wf q91 x.2.1 /\ Kd.wf q106 x.2.2.1 /\ True) -> lenTB x.1 = true /\ lenTB x.2.1 = true /\ List.length x.2.2.1.2 <= q87 ->
  List.length [SV.dat q107 x.2.2.1.1, SV.dat Kd.str x.2.2.1.2] <= q65 /\ List.length x.2.2.1.2 <= q87 /\ (∀ (y : q4), (q44 y) -> y.1 = mayG x.2.2.1.1 x.2.2.1.2 -> ((!y.1) = true -> (q33, (130
  : Int)) = checkT x.1 x.2.1 x.2.2.1) /\ ((!y.1) = false -> (decide (q33 < q69) = true -> (q33 <= q33 /\ q33 < (↑q68 : Int)) /\ ∃ (I : q22), ∃ (μ : q23), ((q214 x) = (q214 x) /\ List.getD
  [x.1, x.2.1] q67 q222 = List.getD [x.1, x.2.1] q67 q222 /\ List.getD [x.1, x.2.1] q67 q222 = List.getD [x.1, x.2.1] q67 q222 /\ q33 = q33 /\ Value.bool true = Value.bool true /\ q33 = q33
  /\ [x.1, x.2.1] = [x.1, x.2.1] /\ Value.bool false = Value.bool false /\ x.1 = x.1 /\ x.2.1 = x.2.1 /\ x.2.2.1 = x.2.2.1 /\ I (q33, q33, q33, ()) ((x.2.2.1.1, x.2.2.1.2, ()), ())) /\ ∀ (y :
  q24) (z : q25), (wiZ y.1 /\ wiZ y.2.1 /\ wiZ y.2.2.1 /\ True) -> (q224 z) /\ True -> I y z -> (decide (y.1 < (q214 x)) = true -> (q33 <= y.1 /\ y.1 < (q214 x)) /\ q68 <= q65 /\ List.length
  (q210 x y).2 <= q87 /\ (∀ (y_1 : q4), (q44 y_1) -> y_1.1 = mayT (q210 x y).1 (q210 x y).2 -> ((!y_1.1) = true -> (wrZ (y.1 + wrZ (q33 * (lnZ x.1))), (140 : Int)) = checkT x.1 x.2.1 x.2.2.1)
  /\ ((!y_1.1) = false -> (q214 x) = (q214 x) /\ List.getD [x.1, x.2.1] q67 q222 = List.getD [x.1, x.2.1] q67 q222 /\ List.getD [x.1, x.2.1] q67 q222 = List.getD [x.1, x.2.1] q67 q222 /\ q33
  = q33 /\ Value.bool true = Value.bool true /\ q33 = q33 /\ [x.1, x.2.1] = [x.1, x.2.1] /\ Value.bool false = Value.bool false /\ x.1 = x.1 /\ x.2.1 = x.2.1 /\ x.2.2.1 = x.2.2.1 /\ I (wrZ
  (y.1 + q66), y.2.1, y.2.2.1, ()) ((z.1.1, z.1.2.1, ()), ()) /\ μ (wrZ (y.1 + q66), y.2.1, y.2.2.1, ()) ((z.1.1, z.1.2.1, ()), ()) < μ y z)) /\ True) /\ (decide (y.1 < (q214 x)) = false ->
  (decide (wrZ q207 < q69) = true -> (q33 <= wrZ q207 /\ wrZ q207 < (↑q68 : Int)) /\ ∃ (I : q26), ∃ (μ : q27), ((q215 x) = (q215 x) /\ List.getD [x.1, x.2.1] q36 q222 = List.getD [x.1, x.2.1]
  q36 q222 /\ List.getD [x.1, x.2.1] q36 q222 = List.getD [x.1, x.2.1] q36 q222 /\ wrZ q207 = wrZ q207 /\ Value.bool true = Value.bool true /\ wrZ q207 = wrZ q207 /\ [x.1, x.2.1] = [x.1,
  x.2.1] /\ Value.bool false = Value.bool false /\ x.1 = x.1 /\ x.2.1 = x.2.1 /\ x.2.2.1 = x.2.2.1 /\ I (q33, false, y.2.1, y.2.2.1, ()) ((z.1.1, z.1.2.1, ()), ())) /\ ∀ (y : Int × Bool × Int
  × Int × Unit) (z : q25), (wiZ y.1 /\ wbZ y.2.1 /\ wiZ y.2.2.1 /\ wiZ y.2.2.2.1 /\ True) -> (q224 z) /\ True -> I y z -> (decide (y.1 < (q215 x)) = true -> (q33 <= y.1 /\ y.1 < (q215 x)) /\
  q68 <= q65 /\ List.length (q211 x y).2 <= q87 /\ (∀ (y_1 : q4), (q44 y_1) -> y_1.1 = mayT (q211 x y).1 (q211 x y).2 -> ((!y_1.1) = true -> (wrZ (y.1 + wrZ (wrZ q207 * (lnZ x.1))), (140 :
  Int)) = checkT x.1 x.2.1 x.2.2.1) /\ ((!y_1.1) = false -> (q215 x) = (q215 x) /\ List.getD [x.1, x.2.1] q36 q222 = List.getD [x.1, x.2.1] q36 q222 /\ List.getD [x.1, x.2.1] q36 q222 =
  List.getD [x.1, x.2.1] q36 q222 /\ wrZ q207 = wrZ q207 /\ Value.bool true = Value.bool true /\ wrZ q207 = wrZ q207 /\ [x.1, x.2.1] = [x.1, x.2.1] /\ Value.bool false = Value.bool false /\
  x.1 = x.1 /\ x.2.1 = x.2.1 /\ x.2.2.1 = x.2.2.1 /\ I (wrZ (y.1 + q66), true, y.2.2.1, y.2.2.2.1, ()) ((z.1.1, z.1.2.1, ()), ()) /\ μ (wrZ (y.1 + q66), true, y.2.2.1, y.2.2.2.1, ()) ((z.1.1,
  z.1.2.1, ()), ()) < μ y z)) /\ True) /\ (decide (y.1 < (q215 x)) = false -> (decide (wrZ q206 < q69) = true -> (q33 <= wrZ q206 /\ wrZ q206 < (↑q68 : Int)) /\ ∃ (I : q26), ∃ (μ : q27),
  ((q216 x) = (q216 x) /\ List.getD [x.1, x.2.1] q68 q222 = List.getD [x.1, x.2.1] q68 q222 /\ List.getD [x.1, x.2.1] q68 q222 = List.getD [x.1, x.2.1] q68 q222 /\ wrZ q206 = wrZ q206 /\
  Value.bool true = Value.bool true /\ wrZ q206 = wrZ q206 /\ [x.1, x.2.1] = [x.1, x.2.1] /\ Value.bool false = Value.bool false /\ x.1 = x.1 /\ x.2.1 = x.2.1 /\ x.2.2.1 = x.2.2.1 /\ I (q33,
  false, y.2.2.1, y.2.2.2.1, ()) ((z.1.1, z.1.2.1, ()), ())) /\ ∀ (y : Int × Bool × Int × Int × Unit) (z : q25), (wiZ y.1 /\ wbZ y.2.1 /\ wiZ y.2.2.1 /\ wiZ y.2.2.2.1 /\ True) -> (q224 z) /\
  True -> I y z -> (decide (y.1 < (q216 x)) = true -> (q33 <= y.1 /\ y.1 < (q216 x)) /\ q68 <= q65 /\ q67 <= q87 /\ (∀ (y_1 : q4), (q44 y_1) -> y_1.1 = mayT q33 [] -> ((!y_1.1) = true -> (wrZ
  (y.1 + wrZ (wrZ q206 * (lnZ x.1))), (140 : Int)) = checkT x.1 x.2.1 x.2.2.1) /\ ((!y_1.1) = false -> (q216 x) = (q216 x) /\ List.getD [x.1, x.2.1] q68 q222 = List.getD [x.1, x.2.1] q68 q222
  /\ List.getD [x.1, x.2.1] q68 q222 = List.getD [x.1, x.2.1] q68 q222 /\ wrZ q206 = wrZ q206 /\ Value.bool true = Value.bool true /\ wrZ q206 = wrZ q206 /\ [x.1, x.2.1] = [x.1, x.2.1] /\
  Value.bool false = Value.bool false /\ x.1 = x.1 /\ x.2.1 = x.2.1 /\ x.2.2.1 = x.2.2.1 /\ I (wrZ (y.1 + q66), true, y.2.2.1, y.2.2.2.1, ()) ((z.1.1, z.1.2.1, ()), ()) /\ μ (wrZ (y.1 + q66),
  true, y.2.2.1, y.2.2.2.1, ()) ((z.1.1, z.1.2.1, ()), ()) < μ y z)) /\ True) /\ (decide (y.1 < (q216 x)) = false -> False)) /\ (decide (wrZ q206 < q69) = false -> ∃ (I : q28), ∃ (μ : q29),
  ((lnZ x.1) = (lnZ x.1) /\ x.1 = x.1 /\ Value.bool false = Value.bool false /\ wrZ q206 = wrZ q206 /\ Value.bool false = Value.bool false /\ y.1 = y.1 /\ (q215 x) = (q215 x) /\ List.getD
  [x.1, x.2.1] q36 q222 = List.getD [x.1, x.2.1] q36 q222 /\ List.getD [x.1, x.2.1] q36 q222 = List.getD [x.1, x.2.1] q36 q222 /\ wrZ q207 = wrZ q207 /\ [x.1, x.2.1] = [x.1, x.2.1] /\
  Value.bool false = Value.bool false /\ y.2.2.1 = y.2.2.1 /\ y.2.2.2.1 = y.2.2.2.1 /\ x.1 = x.1 /\ x.2.1 = x.2.1 /\ x.2.2.1 = x.2.2.1 /\ I (q33, false, false, ()) ((z.1.1, z.1.2.1, ()), ()))
  /\ ∀ (y_1 : q20) (z : q25), (wiZ y_1.1 /\ wbZ y_1.2.1 /\ wbZ y_1.2.2.1 /\ True) -> (q224 z) /\ True -> I y_1 z -> (decide (y_1.1 < (lnZ x.1)) = true -> (q33 <= y_1.1 /\ y_1.1 < (lnZ x.1))
  /\ q68 <= q65 /\ (y_1.2.2.1 = false -> True) /\ (q221 y_1) /\ (y_1.2.2.1 = false -> True) /\ (q221 y_1) /\ (q218 y_1) /\ (y_1.2.2.1 = false -> (y_1.2.2.1 == false) = true) /\ (y_1.2.1 =
  false -> True) /\ (y_1.2.1 = false -> True) /\ (y_1.2.1 = false -> (y_1.2.1 == false) = true /\ (y_1.2.1 == false) = true /\ (q213 x y_1 z) /\ (∀ (y_2 : q4), (q44 y_2) -> y_2.1 = allT
  ((q220 x y_1).1, (q220 x y_1).2) (z.1.1, z.1.2.1) -> (lnZ x.1) = (lnZ x.1) /\ x.1 = x.1 /\ Value.bool false = Value.bool false /\ wrZ q206 = wrZ q206 /\ Value.bool false = Value.bool false
  /\ y.1 = y.1 /\ (q215 x) = (q215 x) /\ List.getD [x.1, x.2.1] q36 q222 = List.getD [x.1, x.2.1] q36 q222 /\ List.getD [x.1, x.2.1] q36 q222 = List.getD [x.1, x.2.1] q36 q222 /\ wrZ q207 =
  wrZ q207 /\ [x.1, x.2.1] = [x.1, x.2.1] /\ Value.bool false = Value.bool false /\ y.2.2.1 = y.2.2.1 /\ y.2.2.2.1 = y.2.2.2.1 /\ x.1 = x.1 /\ x.2.1 = x.2.1 /\ x.2.2.1 = x.2.2.1 /\ I (wrZ
  (y_1.1 + q66), y_2.1, bif y_1.2.2.1 then true else decide (q217 x y_1 z), ()) ((z.1.1, z.1.2.1, ()), ()) /\ μ (wrZ (y_1.1 + q66), y_2.1, bif y_1.2.2.1 then true else decide (q217 x y_1 z),
  ()) ((z.1.1, z.1.2.1, ()), ()) < μ y_1 z) /\ True) /\ (y_1.2.1 = !false -> (lnZ x.1) = (lnZ x.1) /\ x.1 = x.1 /\ Value.bool false = Value.bool false /\ wrZ q206 = wrZ q206 /\ Value.bool
  false = Value.bool false /\ y.1 = y.1 /\ (q215 x) = (q215 x) /\ List.getD [x.1, x.2.1] q36 q222 = List.getD [x.1, x.2.1] q36 q222 /\ List.getD [x.1, x.2.1] q36 q222 = List.getD [x.1, x.2.1]
  q36 q222 /\ wrZ q207 = wrZ q207 /\ [x.1, x.2.1] = [x.1, x.2.1] /\ Value.bool false = Value.bool false /\ y.2.2.1 = y.2.2.1 /\ y.2.2.2.1 = y.2.2.2.1 /\ x.1 = x.1 /\ x.2.1 = x.2.1 /\ x.2.2.1
  = x.2.2.1 /\ I (wrZ (y_1.1 + q66), true, bif y_1.2.2.1 then true else decide (q217 x y_1 z), ()) ((z.1.1, z.1.2.1, ()), ()) /\ μ (wrZ (y_1.1 + q66), true, bif y_1.2.2.1 then true else
  decide (q217 x y_1 z), ()) ((z.1.1, z.1.2.1, ()), ()) < μ y_1 z)) /\ (decide (y_1.1 < (lnZ x.1)) = false -> (y_1.2.2.1 = true -> True) /\ (y_1.2.2.1 = true -> (y_1.2.2.1 == true) = true /\
  True) /\ (y_1.2.2.1 = true -> (y_1.2.2.1 == true) = true) /\ ((q223 y_1) = true -> (q33, (141 : Int)) = checkT x.1 x.2.1 x.2.2.1) /\ ((q223 y_1) = false -> ∃ (I : q22), ∃ (μ : q23), ((lnZ
  x.2.1) = (lnZ x.2.1) /\ x.2.1 = x.2.1 /\ Value.bool false = Value.bool false /\ Value.bool false = Value.bool false /\ y_1.1 = y_1.1 /\ (lnZ x.1) = (lnZ x.1) /\ x.1 = x.1 /\ y_1.2.1 =
  y_1.2.1 /\ y_1.2.2.1 = y_1.2.2.1 /\ Value.bool false = Value.bool false /\ wrZ q206 = wrZ q206 /\ Value.bool false = Value.bool false /\ y.1 = y.1 /\ (q215 x) = (q215 x) /\ List.getD [x.1,
  x.2.1] q36 q222 = List.getD [x.1, x.2.1] q36 q222 /\ List.getD [x.1, x.2.1] q36 q222 = List.getD [x.1, x.2.1] q36 q222 /\ wrZ q207 = wrZ q207 /\ [x.1, x.2.1] = [x.1, x.2.1] /\ Value.bool
  false = Value.bool false /\ x.1 = x.1 /\ x.2.1 = x.2.1 /\ x.2.2.1 = x.2.2.1 /\ I (q33, y.2.2.1, y.2.2.2.1, ()) ((z.1.1, z.1.2.1, ()), ())) /\ ∀ (y_2 : q24) (z : q25), (wiZ y_2.1 /\ wiZ
  y_2.2.1 /\ wiZ y_2.2.2.1 /\ True) -> (q224 z) /\ True -> I y_2 z -> (decide (y_2.1 < (lnZ x.2.1)) = true -> (q33 <= y_2.1 /\ y_2.1 < (lnZ x.2.1)) /\ q68 <= q65 /\ (q212 x y_2 z) /\ (∀ (y_3
  : q4), (q44 y_3) -> y_3.1 = someT ((q219 x y_2).1, (q219 x y_2).2) (z.1.1, z.1.2.1) -> (y_3.1 = true -> (y_2.1, (142 : Int)) = checkT x.1 x.2.1 x.2.2.1) /\ (y_3.1 = false -> (lnZ x.2.1) =
  (lnZ x.2.1) /\ x.2.1 = x.2.1 /\ Value.bool false = Value.bool false /\ Value.bool false = Value.bool false /\ y_1.1 = y_1.1 /\ (lnZ x.1) = (lnZ x.1) /\ x.1 = x.1 /\ y_1.2.1 = y_1.2.1 /\
  y_1.2.2.1 = y_1.2.2.1 /\ Value.bool false = Value.bool false /\ wrZ q206 = wrZ q206 /\ Value.bool false = Value.bool false /\ y.1 = y.1 /\ (q215 x) = (q215 x) /\ List.getD [x.1, x.2.1] q36
  q222 = List.getD [x.1, x.2.1] q36 q222 /\ List.getD [x.1, x.2.1] q36 q222 = List.getD [x.1, x.2.1] q36 q222 /\ wrZ q207 = wrZ q207 /\ [x.1, x.2.1] = [x.1, x.2.1] /\ Value.bool false =
  Value.bool false /\ x.1 = x.1 /\ x.2.1 = x.2.1 /\ x.2.2.1 = x.2.2.1 /\ I (wrZ (y_2.1 + q66), y_2.2.1, y_2.2.2.1, ()) ((z.1.1, z.1.2.1, ()), ()) /\ μ (wrZ (y_2.1 + q66), y_2.2.1, y_2.2.2.1,
  ()) ((z.1.1, z.1.2.1, ()), ()) < μ y_2 z)) /\ True) /\ (decide (y_2.1 < (lnZ x.2.1)) = false -> (q33, q33) = checkT x.1 x.2.1 x.2.2.1)))))) /\ (decide (wrZ q207 < q69) = false -> ∃ (I :
  q28), ∃ (μ : q29), ((lnZ x.1) = (lnZ x.1) /\ x.1 = x.1 /\ Value.bool false = Value.bool false /\ wrZ q207 = wrZ q207 /\ Value.bool false = Value.bool false /\ y.1 = y.1 /\ (q214 x) = (q214
  x) /\ List.getD [x.1, x.2.1] q67 q222 = List.getD [x.1, x.2.1] q67 q222 /\ List.getD [x.1, x.2.1] q67 q222 = List.getD [x.1, x.2.1] q67 q222 /\ q33 = q33 /\ [x.1, x.2.1] = [x.1, x.2.1] /\
  Value.bool false = Value.bool false /\ y.2.1 = y.2.1 /\ y.2.2.1 = y.2.2.1 /\ x.1 = x.1 /\ x.2.1 = x.2.1 /\ x.2.2.1 = x.2.2.1 /\ I (q33, false, false, ()) ((z.1.1, z.1.2.1, ()), ())) /\ ∀
  (y_1 : q20) (z : q25), (wiZ y_1.1 /\ wbZ y_1.2.1 /\ wbZ y_1.2.2.1 /\ True) -> (q224 z) /\ True -> I y_1 z -> (decide (y_1.1 < (lnZ x.1)) = true -> (q33 <= y_1.1 /\ y_1.1 < (lnZ x.1)) /\ q68
  <= q65 /\ (y_1.2.2.1 = false -> True) /\ (q221 y_1) /\ (y_1.2.2.1 = false -> True) /\ (q221 y_1) /\ (q218 y_1) /\ (y_1.2.2.1 = false -> (y_1.2.2.1 == false) = true) /\ (y_1.2.1 = false ->
  True) /\ (y_1.2.1 = false -> True) /\ (y_1.2.1 = false -> (y_1.2.1 == false) = true /\ (y_1.2.1 == false) = true /\ (q213 x y_1 z) /\ (∀ (y_2 : q4), (q44 y_2) -> y_2.1 = allT ((q220 x
  y_1).1, (q220 x y_1).2) (z.1.1, z.1.2.1) -> (lnZ x.1) = (lnZ x.1) /\ x.1 = x.1 /\ Value.bool false = Value.bool false /\ wrZ q207 = wrZ q207 /\ Value.bool false = Value.bool false /\ y.1 =
  y.1 /\ (q214 x) = (q214 x) /\ List.getD [x.1, x.2.1] q67 q222 = List.getD [x.1, x.2.1] q67 q222 /\ List.getD [x.1, x.2.1] q67 q222 = List.getD [x.1, x.2.1] q67 q222 /\ q33 = q33 /\ [x.1,
  x.2.1] = [x.1, x.2.1] /\ Value.bool false = Value.bool false /\ y.2.1 = y.2.1 /\ y.2.2.1 = y.2.2.1 /\ x.1 = x.1 /\ x.2.1 = x.2.1 /\ x.2.2.1 = x.2.2.1 /\ I (wrZ (y_1.1 + q66), y_2.1, bif
  y_1.2.2.1 then true else decide (q217 x y_1 z), ()) ((z.1.1, z.1.2.1, ()), ()) /\ μ (wrZ (y_1.1 + q66), y_2.1, bif y_1.2.2.1 then true else decide (q217 x y_1 z), ()) ((z.1.1, z.1.2.1, ()),
  ()) < μ y_1 z) /\ True) /\ (y_1.2.1 = !false -> (lnZ x.1) = (lnZ x.1) /\ x.1 = x.1 /\ Value.bool false = Value.bool false /\ wrZ q207 = wrZ q207 /\ Value.bool false = Value.bool false /\
  y.1 = y.1 /\ (q214 x) = (q214 x) /\ List.getD [x.1, x.2.1] q67 q222 = List.getD [x.1, x.2.1] q67 q222 /\ List.getD [x.1, x.2.1] q67 q222 = List.getD [x.1, x.2.1] q67 q222 /\ q33 = q33 /\
  [x.1, x.2.1] = [x.1, x.2.1] /\ Value.bool false = Value.bool false /\ y.2.1 = y.2.1 /\ y.2.2.1 = y.2.2.1 /\ x.1 = x.1 /\ x.2.1 = x.2.1 /\ x.2.2.1 = x.2.2.1 /\ I (wrZ (y_1.1 + q66), true,
  bif y_1.2.2.1 then true else decide (q217 x y_1 z), ()) ((z.1.1, z.1.2.1, ()), ()) /\ μ (wrZ (y_1.1 + q66), true, bif y_1.2.2.1 then true else decide (q217 x y_1 z), ()) ((z.1.1, z.1.2.1,
  ()), ()) < μ y_1 z)) /\ (decide (y_1.1 < (lnZ x.1)) = false -> (y_1.2.2.1 = true -> True) /\ (y_1.2.2.1 = true -> (y_1.2.2.1 == true) = true /\ True) /\ (y_1.2.2.1 = true -> (y_1.2.2.1 ==
  true) = true) /\ ((q223 y_1) = true -> (q33, (141 : Int)) = checkT x.1 x.2.1 x.2.2.1) /\ ((q223 y_1) = false -> ∃ (I : q22), ∃ (μ : q23), ((lnZ x.2.1) = (lnZ x.2.1) /\ x.2.1 = x.2.1 /\
  Value.bool false = Value.bool false /\ Value.bool false = Value.bool false /\ y_1.1 = y_1.1 /\ (lnZ x.1) = (lnZ x.1) /\ x.1 = x.1 /\ y_1.2.1 = y_1.2.1 /\ y_1.2.2.1 = y_1.2.2.1 /\ Value.bool
  false = Value.bool false /\ wrZ q207 = wrZ q207 /\ Value.bool false = Value.bool false /\ y.1 = y.1 /\ (q214 x) = (q214 x) /\ List.getD [x.1, x.2.1] q67 q222 = List.getD [x.1, x.2.1] q67
  q222 /\ List.getD [x.1, x.2.1] q67 q222 = List.getD [x.1, x.2.1] q67 q222 /\ q33 = q33 /\ [x.1, x.2.1] = [x.1, x.2.1] /\ Value.bool false = Value.bool false /\ x.1 = x.1 /\ x.2.1 = x.2.1 /\
  x.2.2.1 = x.2.2.1 /\ I (q33, y.2.1, y.2.2.1, ()) ((z.1.1, z.1.2.1, ()), ())) /\ ∀ (y_2 : q24) (z : q25), (wiZ y_2.1 /\ wiZ y_2.2.1 /\ wiZ y_2.2.2.1 /\ True) -> (q224 z) /\ True -> I y_2 z
  -> (decide (y_2.1 < (lnZ x.2.1)) = true -> (q33 <= y_2.1 /\ y_2.1 < (lnZ x.2.1)) /\ q68 <= q65 /\ (q212 x y_2 z) /\ (∀ (y_3 : q4), (q44 y_3) -> y_3.1 = someT ((q219 x y_2).1, (q219 x
  y_2).2) (z.1.1, z.1.2.1) -> (y_3.1 = true -> (y_2.1, (142 : Int)) = checkT x.1 x.2.1 x.2.2.1) /\ (y_3.1 = false -> (lnZ x.2.1) = (lnZ x.2.1) /\ x.2.1 = x.2.1 /\ Value.bool false =
  Value.bool false /\ Value.bool false = Value.bool false /\ y_1.1 = y_1.1 /\ (lnZ x.1) = (lnZ x.1) /\ x.1 = x.1 /\ y_1.2.1 = y_1.2.1 /\ y_1.2.2.1 = y_1.2.2.1 /\ Value.bool false = Value.bool
  false /\ wrZ q207 = wrZ q207 /\ Value.bool false = Value.bool false /\ y.1 = y.1 /\ (q214 x) = (q214 x) /\ List.getD [x.1, x.2.1] q67 q222 = List.getD [x.1, x.2.1] q67 q222 /\ List.getD
  [x.1, x.2.1] q67 q222 = List.getD [x.1, x.2.1] q67 q222 /\ q33 = q33 /\ [x.1, x.2.1] = [x.1, x.2.1] /\ Value.bool false = Value.bool false /\ x.1 = x.1 /\ x.2.1 = x.2.1 /\ x.2.2.1 = x.2.2.1
  /\ I (wrZ (y_2.1 + q66), y_2.2.1, y_2.2.2.1, ()) ((z.1.1, z.1.2.1, ()), ()) /\ μ (wrZ (y_2.1 + q66), y_2.2.1, y_2.2.2.1, ()) ((z.1.1, z.1.2.1, ()), ()) < μ y_2 z)) /\ True) /\ (decide
  (y_2.1 < (lnZ x.2.1)) = false -> (q33, q33) = checkT x.1 x.2.1 x.2.2.1)))))) /\ (decide (q33 < q69) = false -> ∃ (I : q28), ∃ (μ : q29), ((lnZ x.1) = (lnZ x.1) /\ x.1 = x.1 /\ Value.bool
  false = Value.bool false /\ q33 = q33 /\ [x.1, x.2.1] = [x.1, x.2.1] /\ Value.bool false = Value.bool false /\ q33 = q33 /\ q33 = q33 /\ x.1 = x.1 /\ x.2.1 = x.2.1 /\ x.2.2.1 = x.2.2.1 /\ I
  (q33, false, false, ()) ((x.2.2.1.1, x.2.2.1.2, ()), ())) /\ ∀ (y : q20) (z : q25), (wiZ y.1 /\ wbZ y.2.1 /\ wbZ y.2.2.1 /\ True) -> (q224 z) /\ True -> I y z -> (decide (y.1 < (lnZ x.1)) =
  true -> (q33 <= y.1 /\ y.1 < (lnZ x.1)) /\ q68 <= q65 /\ (y.2.2.1 = false -> True) /\ (q221 y) /\ (y.2.2.1 = false -> True) /\ (q221 y) /\ (q218 y) /\ (y.2.2.1 = false -> (y.2.2.1 == false)
  = true) /\ (y.2.1 = false -> True) /\ (y.2.1 = false -> True) /\ (y.2.1 = false -> (y.2.1 == false) = true /\ (y.2.1 == false) = true /\ (q213 x y z) /\ (∀ (y_1 : q4), (q44 y_1) -> y_1.1 =
  allT ((q220 x y).1, (q220 x y).2) (z.1.1, z.1.2.1) -> (lnZ x.1) = (lnZ x.1) /\ x.1 = x.1 /\ Value.bool false = Value.bool false /\ q33 = q33 /\ [x.1, x.2.1] = [x.1, x.2.1] /\ Value.bool
  false = Value.bool false /\ q33 = q33 /\ q33 = q33 /\ x.1 = x.1 /\ x.2.1 = x.2.1 /\ x.2.2.1 = x.2.2.1 /\ I (wrZ (y.1 + q66), y_1.1, bif y.2.2.1 then true else decide (q217 x y z), ())
  ((z.1.1, z.1.2.1, ()), ()) /\ μ (wrZ (y.1 + q66), y_1.1, bif y.2.2.1 then true else decide (q217 x y z), ()) ((z.1.1, z.1.2.1, ()), ()) < μ y z) /\ True) /\ (y.2.1 = !false -> (lnZ x.1) =
  (lnZ x.1) /\ x.1 = x.1 /\ Value.bool false = Value.bool false /\ q33 = q33 /\ [x.1, x.2.1] = [x.1, x.2.1] /\ Value.bool false = Value.bool false /\ q33 = q33 /\ q33 = q33 /\ x.1 = x.1 /\
  x.2.1 = x.2.1 /\ x.2.2.1 = x.2.2.1 /\ I (wrZ (y.1 + q66), true, bif y.2.2.1 then true else decide (q217 x y z), ()) ((z.1.1, z.1.2.1, ()), ()) /\ μ (wrZ (y.1 + q66), true, bif y.2.2.1 then
  true else decide (q217 x y z), ()) ((z.1.1, z.1.2.1, ()), ()) < μ y z)) /\ (decide (y.1 < (lnZ x.1)) = false -> (y.2.2.1 = true -> True) /\ (y.2.2.1 = true -> (y.2.2.1 == true) = true /\
  True) /\ (y.2.2.1 = true -> (y.2.2.1 == true) = true) /\ ((q223 y) = true -> (q33, (141 : Int)) = checkT x.1 x.2.1 x.2.2.1) /\ ((q223 y) = false -> ∃ (I : q22), ∃ (μ : q23), ((lnZ x.2.1) =
  (lnZ x.2.1) /\ x.2.1 = x.2.1 /\ Value.bool false = Value.bool false /\ Value.bool false = Value.bool false /\ y.1 = y.1 /\ (lnZ x.1) = (lnZ x.1) /\ x.1 = x.1 /\ y.2.1 = y.2.1 /\ y.2.2.1 =
  y.2.2.1 /\ Value.bool false = Value.bool false /\ q33 = q33 /\ [x.1, x.2.1] = [x.1, x.2.1] /\ Value.bool false = Value.bool false /\ x.1 = x.1 /\ x.2.1 = x.2.1 /\ x.2.2.1 = x.2.2.1 /\ I
  (q33, q33, q33, ()) ((z.1.1, z.1.2.1, ()), ())) /\ ∀ (y_1 : q24) (z : q25), (wiZ y_1.1 /\ wiZ y_1.2.1 /\ wiZ y_1.2.2.1 /\ True) -> (q224 z) /\ True -> I y_1 z -> (decide (y_1.1 < (lnZ
  x.2.1)) = true -> (q33 <= y_1.1 /\ y_1.1 < (lnZ x.2.1)) /\ q68 <= q65 /\ (q212 x y_1 z) /\ (∀ (y_2 : q4), (q44 y_2) -> y_2.1 = someT ((q219 x y_1).1, (q219 x y_1).2) (z.1.1, z.1.2.1) ->
  (y_2.1 = true -> (y_1.1, (142 : Int)) = checkT x.1 x.2.1 x.2.2.1) /\ (y_2.1 = false -> (lnZ x.2.1) = (lnZ x.2.1) /\ x.2.1 = x.2.1 /\ Value.bool false = Value.bool false /\ Value.bool false
  = Value.bool false /\ y.1 = y.1 /\ (lnZ x.1) = (lnZ x.1) /\ x.1 = x.1 /\ y.2.1 = y.2.1 /\ y.2.2.1 = y.2.2.1 /\ Value.bool false = Value.bool false /\ q33 = q33 /\ [x.1, x.2.1] = [x.1,
  x.2.1] /\ Value.bool false = Value.bool false /\ x.1 = x.1 /\ x.2.1 = x.2.1 /\ x.2.2.1 = x.2.2.1 /\ I (wrZ (y_1.1 + q66), y_1.2.1, y_1.2.2.1, ()) ((z.1.1, z.1.2.1, ()), ()) /\ μ (wrZ (y_1.1
  + q66), y_1.2.1, y_1.2.2.1, ()) ((z.1.1, z.1.2.1, ()), ()) < μ y_1 z)) /\ True) /\ (decide (y_1.1 < (lnZ x.2.1)) = false -> (q33, q33) = checkT x.1 x.2.1 x.2.2.1)))))) /\ True
theorem e21 : t21 = Con.vc c_within_Check GL (mkEnvO ty [(18, conSem c_host_May), (11, conSem c_within_May), (13, conSem c_within_All), (15, conSem c_within_Some)] [] [] [0, 1, 2, 5, 6, 7, 8, 9, 10, 11, 12, 13, 15, 16, 17, 20, 23, 24, 25, 28, 29, 30, 31, 37, 46, 47, 48, 49, 71, 72, 73, 74, 75, 81] [1000000]) {rounds := [(4,3)]} Tryz.f21.ntmps Tryz.f21.results.toList (bodyOf Tryz.f21) := by kernel_rfl
theorem k21 : t21 := by
  unfold t21
  delta q93 q91 q106 q87 q107 q65 q4 q44 q33 q69 q68 q22 q23 q214 q67 q222 q24 q25 wiZ q224 q210 wrZ lnZ q66 q207 q26 q27 q215 q36 wbZ q211 q206 q216 q28 q29 q20 q221 q218 q213 q220 q217 q223 q212 q219 q303 q304 q252 q294 wsZ q241 q236 q240 q267 q260
  rintro ⟨p, x, ⟨g, s⟩, _⟩ hx hp
  obtain ⟨hq1, hq2, hs⟩ := hp
  obtain ⟨lp, ep⟩ := (lenTB_iff p).1 hq1
  obtain ⟨lx, ex⟩ := (lenTB_iff x).1 hq2
  simp only at hs
  clear hq1 hq2
  clear hx
  try dsimp +instances only [dft_int, dft_sl, dft_str]
  simp only [true_and, and_true, eq_self_iff_true, implies_true, reduceCtorEq, false_implies, true_implies, decide_eq_true_eq, decide_eq_false_iff_not, beq_self_eq_true, Bool.not_eq_true', ne_eq, Decidable.not_not, List.nil_append, List.length_singleton, List.length_cons, List.length_nil, Nat.zero_add, Nat.add_zero, Nat.mul_one, and_self, beq_iff_eq, Bool.not_true, Bool.not_false, Bool.not_eq_false', Bool.cond_false_right, Bool.and_eq_true, imp_self, Bool.not_eq_true, Bool.cond_true_left, Bool.or_eq_true]
  have w1 : IntKind.i64.wrap (0 + 1) = 1 := by decide
  have w2 : IntKind.i64.wrap (1 + 1) = 2 := by decide
  have hdft : ((Kd.int IntKind.i64).pair Kd.str).dft = ((0 : Int), ([] : List Int)) := rfl
  have m0 : IntKind.i64.wrap (0 * (p.length : Int)) = 0 := by rw [Int.zero_mul]; decide
  have m1 : IntKind.i64.wrap (1 * (p.length : Int)) = p.length := by rw [Int.one_mul]; exact wrapK _ (by omega) (by omega)
  simp only [w1, w2, hdft, List.getD_cons_zero, List.getD_cons_succ, m0, m1]
  refine ⟨by decide, hs, ?_⟩
  rintro ⟨mg, _⟩ _ em
  simp only at em ⊢
  refine ⟨fun h => (check_host (g := (g, s)) (by rw [← em]; exact h)).symm, fun h => ?_⟩
  have hg : mayG g s = true := by rw [← em]; exact h
  refine ⟨fun _ => ⟨⟨by decide, by decide⟩, ?_⟩, fun h => absurd (by decide) h⟩
  refine ⟨fun y z => 0 ≤ y.1 ∧ y.1 ≤ p.length ∧ (∀ j : Nat, j < y.1.toNat → mayT (p.getD j (0, [])).1 (p.getD j (0, [])).2 = true) ∧ z.1 = (g, s, ()), fun y _ => ((p.length : Int) - y.1).toNat, ⟨Int.le_refl 0, by simp only; omega, fun j h => by simp at h, rfl⟩, ?_⟩
  rintro ⟨i, a, b, _⟩ ⟨z1, _⟩ _ _ ⟨i0, i1, hi, hz⟩
  simp only at i0 i1 hi hz
  subst hz
  simp only
  refine ⟨fun hlt => ⟨⟨i0, hlt⟩, by decide, lenT_gd ep _, ?_⟩, fun hge => ?_⟩
  . rintro ⟨m, _⟩ _ em
    simp only at em ⊢
    rw [wrapK (i + 1) (by omega) (by omega), wrapK (i + 0) (by omega) (by omega)]
    refine ⟨fun hm => ?_, fun hm => ⟨⟨by omega, by omega, fun j hj => ?_, trivial⟩, by omega⟩⟩
    . rw [check_bad1 (g := (g, s)) hg (i := i.toNat) (by omega) hi (by rw [← em]; exact hm)]
      congr 1
      omega
    . by_cases e : j < i.toNat
      . exact hi j e
      . rw [show j = i.toNat by omega, ← em]; exact hm
  have hP : okAll p := fun j hj => hi j (by omega)
  refine ⟨fun _ => ⟨⟨by decide, by decide⟩, ?_⟩, fun h => absurd (by decide) h⟩
  clear hi i0 i1 hge
  refine ⟨fun y z => 0 ≤ y.1 ∧ y.1 ≤ x.length ∧ (∀ j : Nat, j < y.1.toNat → mayT (x.getD j (0, [])).1 (x.getD j (0, [])).2 = true) ∧ z.1 = (g, s, ()), fun y _ => ((x.length : Int) - y.1).toNat, ⟨Int.le_refl 0, by simp only; omega, fun j h => by simp at h, rfl⟩, ?_⟩
  rintro ⟨i, a1, a2, b1, _⟩ ⟨z1, _⟩ _ _ ⟨i0, i1, hi, hz⟩
  simp only at i0 i1 hi hz
  subst hz
  simp only
  refine ⟨fun hlt => ⟨⟨i0, hlt⟩, by decide, lenT_gd ex _, ?_⟩, fun hge => ?_⟩
  . rintro ⟨m, _⟩ _ em
    simp only at em ⊢
    rw [wrapK (i + 1) (by omega) (by omega), wrapK (i + (p.length : Int)) (by omega) (by omega)]
    refine ⟨fun hm => ?_, fun hm => ⟨⟨by omega, by omega, fun j hj => ?_, trivial⟩, by omega⟩⟩
    . rw [check_bad2 (g := (g, s)) hg hP (i := i.toNat) (by omega) hi (by rw [← em]; exact hm)]
      congr 1
      omega
    . by_cases e : j < i.toNat
      . exact hi j e
      . rw [show j = i.toNat by omega, ← em]; exact hm
  have hX : okAll x := fun j hj => hi j (by omega)
  refine ⟨fun h => absurd h (by decide), fun _ => ?_⟩
  clear hi i0 i1 hge
  refine ⟨fun y z => 0 ≤ y.1 ∧ y.1 ≤ p.length ∧ y.2.1 = (p.take y.1.toNat).any (fun t => allT t (g, s)) ∧ y.2.2.1 = (p.take y.1.toNat).any (fun t => decide (t.1 = g)) ∧ z.1 = (g, s, ()), fun y _ => ((p.length : Int) - y.1).toNat, ⟨Int.le_refl 0, by simp only; omega, rfl, rfl, rfl⟩, ?_⟩
  rintro ⟨i, a1, a2, _⟩ ⟨z1, _⟩ _ _ ⟨i0, i1, h1, h2, hz⟩
  simp only at i0 i1 h1 h2 hz
  subst hz
  simp only
  refine ⟨fun hlt => ⟨⟨i0, hlt⟩, by decide, fun ha => ⟨ha, ha, ⟨lenT_gd ep _, hs⟩, ?_⟩, fun ha => ?_⟩, fun hge => ?_⟩
  . rintro ⟨m, _⟩ _ em
    simp only at em ⊢
    rw [wrapK (i + 1) (by omega) (by omega)]
    refine ⟨⟨by omega, by omega, ?_, ?_, trivial⟩, by omega⟩
    . rw [show (i + 1).toNat = i.toNat + 1 by omega, any_take _ _ _ (by omega), ← h1, ha, em]; rfl
    . rw [show (i + 1).toNat = i.toNat + 1 by omega, any_take _ _ _ (by omega), ← h2]
  . rw [wrapK (i + 1) (by omega) (by omega)]
    refine ⟨⟨by omega, by omega, ?_, ?_, trivial⟩, by omega⟩
    . rw [show (i + 1).toNat = i.toNat + 1 by omega, any_take _ _ _ (by omega), ← h1, ha]; rfl
    . rw [show (i + 1).toNat = i.toNat + 1 by omega, any_take _ _ _ (by omega), ← h2]
  rw [List.take_of_length_le (by omega)] at h1 h2
  clear i0 i1 hge
  refine ⟨fun h => (check_out (g := (g, s)) hg hP hX (by rw [← h2]; exact h.1) (by rw [← h1]; exact h.2)).symm, fun h => ?_⟩
  have hn : ¬ ((p.any fun t => decide (t.1 = g)) = true ∧ (p.any fun t => allT t (g, s)) = false) := by
    rw [← h1, ← h2]
    rintro ⟨c1, c2⟩
    rw [c1, c2] at h
    cases h
  refine ⟨fun y z => 0 ≤ y.1 ∧ y.1 ≤ x.length ∧ (∀ j : Nat, j < y.1.toNat → someT (x.getD j (0, [])) (g, s) = false) ∧ z.1 = (g, s, ()), fun y _ => ((x.length : Int) - y.1).toNat, ⟨Int.le_refl 0, by simp only; omega, fun j h => by simp at h, rfl⟩, ?_⟩
  rintro ⟨i, c1, c2, _⟩ ⟨z1, _⟩ _ _ ⟨i0, i1, hi, hz⟩
  simp only at i0 i1 hi hz
  subst hz
  simp only
  refine ⟨fun hlt => ⟨⟨i0, hlt⟩, by decide, ⟨lenT_gd ex _, hs⟩, ?_⟩, fun hge => ?_⟩
  . rintro ⟨m, _⟩ _ em
    simp only at em ⊢
    rw [wrapK (i + 1) (by omega) (by omega)]
    refine ⟨fun hm => ?_, fun hm => ⟨⟨by omega, by omega, fun j hj => ?_, trivial⟩, by omega⟩⟩
    . rw [check_in (g := (g, s)) hg hP hX hn (i := i.toNat) (by omega) hi (by rw [← hm, em])]
      congr 1
      omega
    . by_cases e : j < i.toNat
      . exact hi j e
      . rw [show j = i.toNat by omega, ← hm, em]
  . exact (check_ok (g := (g, s)) hg hP hX hn fun j hj => hi j (by omega)).symm
theorem h21 : c_within_Check.ok Tryz.prog GL 21 := conO_ok (H := {rounds := [(4,3)]}) (mkEnvO_ok (gl := GL) (l := [(18, conSem c_host_May), (11, conSem c_within_May), (13, conSem c_within_All), (15, conSem c_within_Some)]) (q := []) (d := []) _ [1000000] tyOk (by kernel_rfl) ⟨h18.call, h11.call, h13.call, h15.call, trivial⟩ trivial trivial) (by kernel_rfl) (by kernel_rfl) (Eq.mp e21 k21)
end Go.Proofs.YtgnlcpoeepfdoaaGreatDoor
end
