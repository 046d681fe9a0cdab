/- Texts of a verified walk, led together: Ext3A, Ext3W. -/
import Derived.Test.YtiofbnlbfmbodaaGreatDoorZW13
import Derived.Test.YtiofbnlbfmbodaaGreatDoorZV20
set_option linter.unusedVariables false
set_option linter.unusedSimpArgs false
section
namespace Go.Proofs.YtiofbnlbfmbodaaGreatDoor
open Go Go.Vc Go.Pl Go.Proofs
def c_slices_Index_int_int : Con := { args := [.dat (.sl I64), .dat I64], res := [.dat I64], pre := fun _ => True, post := fun x y => y.1 = idxB x.1 x.2.1 }
def c_slices_Contains_int_int : Con := { args := [.dat (.sl I64), .dat I64], res := [.dat .bool], pre := fun _ => True, post := fun x y => y.1 = decide (x.2.1 ∈ x.1) }
def c_ext_unlike : Con := { args := [.dat (.sl I64), .dat I64, .dat I64], res := [.dat .bool], pre := fun _ => True, post := fun x y => y.1 = unlikeK x.1 x.2.1 x.2.2.1 }
def c_ext_last : Con := { args := [.dat BY, .dat (.sl I64)], res := [.dat I64], pre := fun _ => True, post := fun x y => lastO x.1 x.2.1 = (y.1, true), pan := true, pt := 152, pk := .unit, ppost := fun x _ => (lastO x.1 x.2.1).2 = false }
def c_ext_may : Con := { args := [.dat (.sl EXT)], res := [.dat .bool], pre := fun x => lenX x.1 ≤ LIM, post := fun x y => y.1 = mayX x.1 }
def c_ext_tag : Con := { args := [.dat I64], res := [.dat I64], pre := fun x => 0 ≤ x.1 ∧ x.1 ≤ 1000, post := fun x y => y.1 = tagG x.1 }
def c_ext_general : Con := { args := [.dat ET], res := [.dat I64, .dat .str], pre := fun x => isTagD x.1.1 = true, post := fun x y => okE x.1 = true ∧ (y.1, y.2.1) = genE x.1, pan := true, pt := 152, pk := .unit, ppost := fun x _ => okE x.1 = false }
def c_ext_Purposes : Con := { args := [.dat (.sl I64)], res := [.own 5 U8, .dat I64], pre := fun _ => True, post := fun x y => (y.1, y.2.1) = PurposesD x.1 }
def c_ext_ToPurposes : Con := { args := [.dat BY], res := [.own 3 I64, .dat I64], pre := fun x => lenB x.1 ≤ LIM, post := fun x y => (y.1, y.2.1) = ToPurposesD x.1 }
def c_ext_Names : Con := { args := [.dat (.sl GK)], res := [.own 5 U8, .dat I64], pre := fun x => lenG x.1 ≤ LIM, post := fun x y => (y.1, y.2.1) = NamesD x.1 }
def c_ext_ToNames : Con := { args := [.dat BY], res := [.own 59 GK, .dat I64], pre := fun x => lenB x.1 ≤ LIM, post := fun x y => (y.1, y.2.1) = ToNamesD x.1 }
def c_ext_trees : Con := { args := [.dat I64, .dat (.sl GK)], res := [.dat BY], pre := fun x => lenG x.2.1 ≤ LIM ∧ isTagD x.1 = true, post := fun x y => okTr x.2.1 = true ∧ y.1 = (subs x.1 x.2.1).flatMap putB, pan := true, pt := 152, pk := .unit, ppost := fun x _ => okTr x.2.1 = false }
def c_ext_Trees : Con := { args := [.dat (.pair (.sl GK) (.sl GK))], res := [.dat BY, .dat I64], pre := fun x => lenG x.1.1 ≤ LIM ∧ lenG x.1.2 ≤ LIM, post := fun x y => (y.1, y.2.1) = TreesD x.1 }
def c_ext_toTrees : Con := { args := [.dat (.sl ET), .dat I64], res := [.dat (.sl GK), .dat (.sl ET)], pre := fun x => lenEs x.1 ≤ LIM, post := fun x y => rdS x.1 x.2.1 = (y.1, y.2.1, true), pan := true, pt := 152, pk := .unit, ppost := fun x _ => (rdS x.1 x.2.1).2.2 = false }
def c_ext_ToTrees : Con := { args := [.dat BY], res := [.dat (.pair (.sl GK) (.sl GK)), .dat I64], pre := fun x => lenB x.1 ≤ LIM, post := fun x y => (y.1, y.2.1) = ToTreesD x.1 }
def c_ext_Encode : Con := { args := [.dat (.sl EXT)], res := [.own 5 U8, .dat I64], pre := fun x => lenX x.1 ≤ LIM, post := fun x y => (y.1, y.2.1) = ExtsD x.1 }
def c_ext_Decode : Con := { args := [.dat BY], res := [.dat (.sl EXT), .dat I64], pre := fun x => lenB x.1 ≤ LIM, post := fun x y => (y.1, y.2.1) = ToExtsD x.1 }
end Go.Proofs.YtiofbnlbfmbodaaGreatDoor
end
section
namespace Go.Proofs.YtiofbnlbfmbodaaGreatDoor
open Go Go.Vc Go.Pl Go.Proofs
set_option maxHeartbeats 2000000
set_option linter.unusedVariables false
set_option linter.unusedSimpArgs false
abbrev q24 := (Int × Unit -> List (List Int) × Unit -> Prop)
abbrev q25 := (Int × Unit -> List (List Int) × Unit -> Nat)
abbrev q26 := (List (Int × List Int) × List (Int × List Int) × Unit)
abbrev q407 (p0 : List Int × Int × Int × Unit) (p1 : q9) := (bif decide (List.getD p0.1 (Int.toNat p1.1) q429 < p0.2.1) then true else decide (p0.2.2.1 < List.getD p0.1 (Int.toNat p1.1)
  q429))
abbrev q278 (p0 : List Int × Int × Int × Unit) (p1 : q9) := ((q407 p0 p1) = false -> True)
abbrev q279 (p0 : List Int × Int × Int × Unit) (p1 : q9) := ((q407 p0 p1) == false)
abbrev q280 (p0 : List Int × Int × Int × Unit) (p1 : q9) := (bif decide (List.getD p0.1 (Int.toNat p1.1) q429 < p0.2.1) then true else decide (p0.2.2.1 < List.getD p0.1 (Int.toNat p1.1)
  q382))
abbrev q281 (p0 : List Int × Int × Int × Unit) (p1 : q9) := (decide (List.getD p0.1 (Int.toNat p1.1) q429 < p0.2.1) == false)
abbrev q282 (p0 : List Int × Int × Int × Unit) (p1 : q9) := (List.getD p0.1 (Int.toNat p1.1) q382 < p0.2.1)
abbrev q283 (p0 : q0) := (decide (p0.2.1 = q421) = true -> (decide (p0.2.1 = q421) == true) = true /\ (decide (p0.2.1 = q421) == true) = true /\ True)
abbrev q284 (p0 : q0) (p1 : q2) := (bif decide (p0.2.1 = q421) then decide ((lnZ p0.1) = wrZ ((lnZ p1.2.1) + q334)) else false)
abbrev q285 (p0 : q0) := (decide (p0.2.1 = q421) = true -> (decide (p0.2.1 = q421) == true) = true /\ True)
abbrev q436 := (Kd.pair q453 (Kd.pair Kd.bool q451))
abbrev q408 := (Kd.dft q436)
abbrev q286 (p0 : List (Int × Bool × List Int) × Unit) (p1 : q9) := (List.getD p0.1 (Int.toNat p1.1) q408)
abbrev q287 := (Kd.sl q436)
abbrev q288 (p0 : List (Int × Bool × List Int) × Unit) := (bif decide (q334 <= (lnZ p0.1)) then decide ((lnZ p0.1) <= (16 : Int)) else false)
abbrev q289 := (Int × Bool × List Int)
abbrev q290 (p0 : q10) := (↑(BitVec.toNat (BitVec.ofInt (64 : Nat) p0.1.1 &&& BitVec.ofInt (64 : Nat) (31 : Int))) : Int)
abbrev q291 (p0 : q5) := (bif decide ((lnZ p0.1) = q332) then true else decide ((16 : Int) < (lnZ p0.1)))
abbrev q292 (p0 : q0) := (isTagD q333 = true /\ lenF [p0.1] <= q364)
abbrev q293 (p0 : (List Int × Unit) × Unit × (Int × Unit) × List (Int × List Int) × List Int × List Int × Unit) (p1 : q1) := (List.getD p0.2.2.2.1 (q330 p1) q353)
abbrev q294 (p0 : (List Int × Unit) × Unit × (Int × Unit) × List (Int × List Int) × List Int × List Int × Unit) := (bif decide (q332 < (lnZ p0.2.2.2.2.1)) then decide ((lnZ p0.2.2.2.2.1) <=
  (16 : Int)) else false)
abbrev q437 (p0 : q23) (p1 : q6) := (List.getD p0.1 (Int.toNat p1.1) (Kd.dft (Kd.pair q453 Kd.str)))
abbrev q366 (p0 : q1) (p1 : q23) (p2 : q6) (p3 : List (List Int) × List Int × Unit) (p4 : Int × Int × Unit -> List (List Int) × List Int × Unit -> Prop) (p5 : Int × Int × Unit -> List (List
  Int) × List Int × Unit -> Nat) := ((isTagD p0.1 = true /\ lenF [(q437 p1 p2).2] <= (16777215 : Nat)) /\ (∀ (y_3 : q5), (wyZ y_3.1 /\ True) -> y_3.1 = putB (p0.1, List.flatten [(q437 p1
  p2).2]) -> ((q430 < q416 /\ (List.length p3.1 + List.length [y_3.1]) * (24 : Nat) <= q423 /\ List.length p3.1 + List.length [y_3.1] <= q422 /\ (lnZ p1.1) = (lnZ p1.1) /\ p1.1 = p1.1 /\
  Value.bool false = Value.bool false /\ p1.1 = p1.1 /\ p4 (wrZ (p2.1 + (1 : Int)), p2.2.1, ()) (p3.1 ++ [y_3.1], p3.2.1, ()) /\ p5 (wrZ (p2.1 + (1 : Int)), p2.2.1, ()) (p3.1 ++ [y_3.1],
  p3.2.1, ()) < p5 p2 p3) /\ True) /\ True) /\ True)
abbrev q295 (p0 : q1) (p1 : q23) (p2 : q6) (p3 : List (List Int) × List Int × Unit) (p4 : Int × Int × Unit -> List (List Int) × List Int × Unit -> Prop) (p5 : Int × Int × Unit -> List (List
  Int) × List Int × Unit -> Nat) := ((q366 p0 p1 p2 p3 p4 p5) /\ True)
abbrev q296 (p0 : q23) (p1 : q6) := (q332 <= (q437 p0 p1).1 /\ (q437 p0 p1).1 <= (1000 : Int))
abbrev q367 := (Kd.dft (Kd.pair q453 Kd.str))
abbrev q297 (p0 : q23) (p1 : q6) := (List.getD p0.1 (Int.toNat p1.1) q367)
abbrev q298 (p0 : (List Int × Unit) × Unit × (Int × Unit) × List (Int × List Int) × List (Int × List Int) × List (Int × List Int) × Unit) (p1 : q1) := (List.getD p0.2.2.2.1 (q330 p1) q353)
abbrev q409 (p0 : Int × List (Int × List Int) × Unit) (p1 : q1) := (List.getD p0.2.1 (Int.toNat p1.1) (Kd.dft (Kd.pair q453 Kd.str)))
abbrev q299 (p0 : q1) (p1 : Int × List (Int × List Int) × Unit) (p2 : q1) (p3 : q11) (p4 : q24) (p5 : q25) := (((isTagD p0.1 = true /\ lenF [(q409 p1 p2).2] <= q364) /\ (∀ (y_4 : q5), (wyZ
  y_4.1 /\ True) -> y_4.1 = putB (p0.1, List.flatten [(q409 p1 p2).2]) -> (((isTagD (48 : Int) = true /\ lenF [y_4.1] <= q364) /\ (∀ (y_5 : q5), (wyZ y_5.1 /\ True) -> y_5.1 = putB ((48 :
  Int), List.flatten [y_4.1]) -> ((q347 < q416 /\ (List.length p3.1 + List.length [y_5.1]) * (24 : Nat) <= q423 /\ List.length p3.1 + List.length [y_5.1] <= q422 /\ (lnZ p1.2.1) = (lnZ
  p1.2.1) /\ p1.2.1 = p1.2.1 /\ Value.slice none q347 q347 = Value.slice none q347 q347 /\ p1.1 = p1.1 /\ p1.2.1 = p1.2.1 /\ p4 (wrZ (p2.1 + (1 : Int)), ()) (p3.1 ++ [y_5.1], ()) /\ p5 (wrZ
  (p2.1 + (1 : Int)), ()) (p3.1 ++ [y_5.1], ()) < p5 p2 p3) /\ True) /\ True) /\ True) /\ True) /\ True) /\ True) /\ True)
abbrev q300 (p0 : Int × List (Int × List Int) × Unit) (p1 : q1) := (q332 <= (q409 p0 p1).1 /\ (q409 p0 p1).1 <= (1000 : Int))
abbrev q301 (p0 : Int × List (Int × List Int) × Unit) (p1 : q1) := (List.getD p0.2.1 (q330 p1) q367)
abbrev q302 (p0 : (List (Int × List Int) × List (Int × List Int)) × Unit) := (((lenG p0.1.1 <= (2000000 : Nat) /\ isTagD (160 : Int) = true) /\ (∀ (y : q5), (wyZ y.1 /\ True) -> okTr p0.1.1
  = true /\ y.1 = List.flatMap putB (subs (160 : Int) p0.1.1) -> ((lenG p0.1.2 <= (2000000 : Nat) /\ isTagD (161 : Int) = true) /\ (∀ (y_1 : q5), (wyZ y_1.1 /\ True) -> okTr p0.1.2 = true /\
  y_1.1 = List.flatMap putB (subs (161 : Int) p0.1.2) -> True /\ (∀ (y_2 : Unit), True -> decide (q332 < wrZ ((lnZ y.1) + (lnZ y_1.1))) = true -> (isTagD (48 : Int) = true /\ lenF [y.1,
  y_1.1] <= q364) /\ (∀ (y_3 : q5), (wyZ y_3.1 /\ True) -> y_3.1 = putB ((48 : Int), List.flatten [y.1, y_1.1]) -> (y_3.1, q332) = TreesD p0.1) /\ True) /\ ∀ (y_2 : Unit), Kd.wf Kd.unit y_2
  -> decide (q332 < wrZ ((lnZ y.1) + (lnZ y_1.1))) = false -> q347 <= (65536 : Nat) /\ ([], (150 : Int)) = TreesD p0.1) /\ ∀ (y : Unit), Kd.wf Kd.unit y -> okTr p0.1.2 = false -> q347 <=
  (65536 : Nat) /\ ([], (150 : Int)) = TreesD p0.1) /\ True) /\ ∀ (y : Unit), Kd.wf Kd.unit y -> okTr p0.1.1 = false -> q347 <= (65536 : Nat) /\ ([], (150 : Int)) = TreesD p0.1) /\ True)
abbrev q303 := (Kd.pair (Kd.sl q388) (Kd.sl q388))
abbrev q368 (p0 : q18) := (bif decide (p0.2.2.1 = q421) then decide (q421 < (lnZ p0.1)) else false)
abbrev q304 (p0 : q18) := ((q368 p0) = true -> ((q368 p0) == true) = true /\ True)
abbrev q305 (p0 : q18) := (bif bif decide (p0.2.2.1 = q332) then decide (q332 < (lnZ p0.1)) else false then decide ((lnZ p0.1) <= (16 : Int)) else false)
abbrev q306 (p0 : q26) (p1 : q1) := (List.getD p0.1 (q330 p1) q353)
abbrev q307 (p0 : q18) := (bif decide (p0.2.2.1 = q332) then decide (q332 < (lnZ p0.1)) else false)
abbrev q308 (p0 : q26) := (Kd.wf (Kd.sl q388) p0.1 /\ Kd.wf q387 p0.2.1 /\ True)
abbrev q369 (p0 : q26) := ((lnZ p0.2.1) = q421)
abbrev q309 (p0 : q26) := (decide (q369 p0) = true -> (decide (q369 p0) == true) = true /\ True)
abbrev q439 (p0 : List (Int × Bool × List Int) × Unit) (p1 : q1) := (List.getD p0.1 (Int.toNat p1.1) (Kd.dft (Kd.pair q453 (Kd.pair Kd.bool q451))))
abbrev q438 (p0 : q11) (p1 : q5) (p2 : List (Int × Bool × List Int) × Unit) (p3 : q24) (p4 : q1) (p5 : q25) := ((0 : Nat) < (1 : Nat) /\ (List.length p0.1 + List.length [p1.1]) * (24 : Nat)
  <= (140737488355328 : Nat) /\ List.length p0.1 + List.length [p1.1] <= (9223372036854775807 : Nat) /\ (lnZ p2.1) = (lnZ p2.1) /\ p2.1 = p2.1 /\ Value.bool false = Value.bool false /\ (0 :
  Int) = (0 : Int) /\ Value.slice none (0 : Nat) (0 : Nat) = Value.slice none (0 : Nat) (0 : Nat) /\ p2.1 = p2.1 /\ p3 (wrZ (p4.1 + (1 : Int)), ()) (p0.1 ++ [p1.1], ()) /\ p5 (wrZ (p4.1 + (1
  : Int)), ()) (p0.1 ++ [p1.1], ()) < p5 p4 p0)
abbrev q410 (p0 : List (Int × Bool × List Int) × Unit) (p1 : q1) (p2 : q5) (p3 : q11) (p4 : q24) (p5 : q25) := ((isTagD (4 : Int) = true /\ lenF [(q439 p0 p1).2.2] <= (16777215 : Nat)) /\
  (∀ (y_3 : q5), (wyZ y_3.1 /\ True) -> y_3.1 = putB ((4 : Int), List.flatten [(q439 p0 p1).2.2]) -> (((isTagD (48 : Int) = true /\ lenF [p2.1, [], y_3.1] <= (16777215 : Nat)) /\ (∀ (y_4 :
  q5), (wyZ y_4.1 /\ True) -> y_4.1 = putB ((48 : Int), List.flatten [p2.1, [], y_3.1]) -> ((q438 p3 y_4 p0 p4 p1 p5) /\ True) /\ True) /\ True) /\ True) /\ True) /\ True)
abbrev q310 (p0 : q0) (p1 : List (Int × Bool × List Int) × Unit) (p2 : q1) (p3 : q11) (p4 : q24) (p5 : q25) := (((isTagD q333 = true /\ lenF [p0.1] <= q364) /\ (∀ (y_2 : q5), (wyZ y_2.1 /\
  True) -> y_2.1 = putB (q333, List.flatten [p0.1]) -> ((q410 p1 p2 y_2 p3 p4 p5) /\ True) /\ True) /\ True) /\ (((isTagD q333 = true /\ lenF [p0.1] <= q364) /\ (∀ (y_2 : q5), (wyZ y_2.1 /\
  True) -> y_2.1 = putB (q333, List.flatten [p0.1]) -> (q410 p1 p2 y_2 p3 p4 p5) /\ True) /\ True) /\ True) /\ True)
abbrev q311 (p0 : q11) (p1 : q5) (p2 : List (Int × Bool × List Int) × Unit) (p3 : q24) (p4 : q1) (p5 : q25) := ((q438 p0 p1 p2 p3 p4 p5) /\ True)
abbrev q312 (p0 : List (Int × Bool × List Int) × Unit) (p1 : q1) := (isTagD (4 : Int) = true /\ lenF [(q439 p0 p1).2.2] <= q364)
abbrev q313 (p0 : List (Int × Bool × List Int) × Unit) (p1 : q1) := (List.getD p0.1 (q330 p1) q408)
abbrev q314 (p0 : q5) (p1 : q5) (p2 : q5) := (isTagD (48 : Int) = true /\ lenF [p0.1, p1.1, p2.1] <= q364)
abbrev q315 (p0 : (List Int × Unit) × Unit × (Int × Unit) × List (Int × List Int) × List (Int × Bool × List Int) × List (Int × Bool × List Int) × Unit) (p1 : q1) := (List.getD p0.2.2.2.1
  (q330 p1) q353)
abbrev q441 := (Kd.dft (Kd.pair q453 (Kd.pair Kd.bool q451)))
abbrev q370 (p0 : List q289 × Unit) (p1 : q1) (p2 : q5) (p3 : q11) (p4 : q24) (p5 : q25) := ((isTagD (4 : Int) = true /\ lenF [(List.getD p0.1 (Int.toNat p1.1) q441).2.2] <= (16777215 :
  Nat)) /\ (∀ (y_3 : q5), (wyZ y_3.1 /\ True) -> y_3.1 = putB ((4 : Int), List.flatten [(List.getD p0.1 (Int.toNat p1.1) q441).2.2]) -> (((isTagD (48 : Int) = true /\ lenF [p2.1, [], y_3.1]
  <= (16777215 : Nat)) /\ (∀ (y_4 : q5), (wyZ y_4.1 /\ True) -> y_4.1 = putB ((48 : Int), List.flatten [p2.1, [], y_3.1]) -> ((q430 < q416 /\ (List.length p3.1 + List.length [y_4.1]) * (24 :
  Nat) <= q423 /\ List.length p3.1 + List.length [y_4.1] <= q422 /\ (lnZ p0.1) = (lnZ p0.1) /\ p0.1 = p0.1 /\ Value.bool false = Value.bool false /\ q421 = q421 /\ Value.slice none q430 q430
  = Value.slice none q430 q430 /\ p0.1 = p0.1 /\ p4 (wrZ (p1.1 + (1 : Int)), ()) (p3.1 ++ [y_4.1], ()) /\ p5 (wrZ (p1.1 + (1 : Int)), ()) (p3.1 ++ [y_4.1], ()) < p5 p1 p3) /\ True) /\ True)
  /\ True) /\ True) /\ True) /\ True)
def t149 : Prop :=
  ∀ (x : q0), (q162 x) -> True -> ∃ (I : q12), ∃ (μ : q13), ((lnZ x.1) = (lnZ x.1) /\ x.1 = x.1 /\ x.2.1 = x.2.1 /\ I (q34, q34, ()) ()) /\ ∀ (y : q6) (z : Unit), (q101 y) -> True -> I y z ->
  (decide (y.1 < (lnZ x.1)) = true -> (q34 <= y.1 /\ y.1 < (lnZ x.1)) /\ (decide (x.2.1 = List.getD x.1 (Int.toNat y.1) q131) = true -> y.1 = idxB x.1 x.2.1) /\ (decide (x.2.1 = List.getD x.1
  (Int.toNat y.1) q131) = false -> (lnZ x.1) = (lnZ x.1) /\ x.1 = x.1 /\ x.2.1 = x.2.1 /\ I (wrZ (y.1 + q334), y.2.1, ()) () /\ μ (wrZ (y.1 + q334), y.2.1, ()) () < μ y z)) /\ (decide (y.1 <
  (lnZ x.1)) = false -> (-1 : Int) = idxB x.1 x.2.1)
theorem e149 : t149 = Con.vc c_slices_Index_int_int GL (mkEnv ty [] [] [] [0, 1, 4, 5, 7, 8, 9, 16]) {} Tryz.f149.ntmps Tryz.f149.results.toList (bodyOf Tryz.f149) := by kernel_rfl
theorem k149 : t149 := by
  unfold t149
  delta q0 q162 q12 q13 lnZ q34 q6 q101 q131 wrZ q334 q425 wiZ
  rintro ⟨l, c, _⟩ hx hp
  have hl : l.length ≤ 9223372036854775807 := hx.1.1
  try dsimp +instances only [dft_int, dft_sl, dft_str]
  simp only [true_and, and_true, eq_self_iff_true, implies_true, reduceCtorEq, false_implies, true_implies, decide_eq_true_eq, decide_eq_false_iff_not, beq_self_eq_true, Bool.not_eq_true', ne_eq, Decidable.not_not, List.nil_append, List.length_singleton, List.length_cons, List.length_nil, Nat.zero_add, Nat.add_zero, Nat.mul_one, and_self, beq_iff_eq, Bool.not_true, Bool.not_false, Bool.not_eq_false', Bool.cond_false_right, Bool.and_eq_true, imp_self, Bool.not_eq_true, Bool.cond_true_left, Bool.or_eq_true]
  refine ⟨fun y _ => 0 ≤ y.1 ∧ y.1 ≤ l.length ∧ c ∉ l.take y.1.toNat, fun y _ => ((l.length : Int) - y.1).toNat, ⟨Int.le_refl 0, by simp only; omega, by simp⟩, ?_⟩
  rintro ⟨i, r, _⟩ _ _ ⟨h0, h1, h2⟩
  simp only at h0 h1 h2 ⊢
  refine ⟨fun hi => ⟨⟨h0, hi⟩, fun h => ?_, fun h => ?_⟩, fun hi => ?_⟩
  . rw [idxB_at (i := i.toNat) (by omega) h2 h.symm]; omega
  . rw [wrapM (i + 1) (by omega) (by omega)]
    refine ⟨⟨by omega, by omega, ?_⟩, by omega⟩
    rw [show (i + 1).toNat = i.toNat + 1 by omega, ntake_snoc l i.toNat (by omega)]
    intro hm
    rcases List.mem_append.1 hm with hm | hm
    . exact h2 hm
    . exact h (List.mem_singleton.1 hm)
  . rw [take_all (by omega)] at h2
    exact (idxB_no h2).symm
theorem h149 : c_slices_Index_int_int.ok Tryz.prog GL 149 := con_ok (H := {}) (mkEnv_ok (gl := GL) (l := []) (q := []) (d := []) _ tyOk (by kernel_rfl) trivial trivial trivial) (by kernel_rfl) (by kernel_rfl) (Eq.mp e149 k149)
def t107 : Prop :=
  ∀ (x : q0), (q162 x) -> True -> True /\ (∀ (y : q1), (q30 y) -> y.1 = idxB x.1 x.2.1 -> decide (q33 y) = decide (x.2.1 ∈ x.1)) /\ True
theorem e107 : t107 = Con.vc c_slices_Contains_int_int GL (mkEnv ty [(149, conSem c_slices_Index_int_int)] [] [] [0, 1, 4]) {} Tryz.f107.ntmps Tryz.f107.results.toList (bodyOf Tryz.f107) := by kernel_rfl
theorem k107 : t107 := by
  unfold t107
  delta q0 q162 q1 q30 q33 q425 wiZ q332
  rintro ⟨l, c, _⟩ hx hp
  try dsimp +instances only [dft_int, dft_sl, dft_str]
  simp only [true_and, and_true, eq_self_iff_true, implies_true, reduceCtorEq, false_implies, true_implies, decide_eq_true_eq, decide_eq_false_iff_not, beq_self_eq_true, Bool.not_eq_true', ne_eq, Decidable.not_not, List.nil_append, List.length_singleton, List.length_cons, List.length_nil, Nat.zero_add, Nat.add_zero, Nat.mul_one, and_self, beq_iff_eq, Bool.not_true, Bool.not_false, Bool.not_eq_false', Bool.cond_false_right, Bool.and_eq_true, imp_self, Bool.not_eq_true, Bool.cond_true_left, Bool.or_eq_true]
  rintro ⟨y, _⟩ _ e
  simp only at e ⊢
  subst e
  exact decide_eq_decide.2 (idxB_mem l c)
theorem h107 : c_slices_Contains_int_int.ok Tryz.prog GL 107 := con_ok (H := {}) (mkEnv_ok (gl := GL) (l := [(149, conSem c_slices_Index_int_int)]) (q := []) (d := []) _ tyOk (by kernel_rfl) ⟨h149.call, trivial⟩ trivial trivial) (by kernel_rfl) (by kernel_rfl) (Eq.mp e107 k107)
def t57 : Prop :=
  ∀ (x : List Int × Int × Int × Unit), (Kd.wf q144 x.1 /\ wiZ x.2.1 /\ wiZ x.2.2.1 /\ True) -> True -> ∃ (I : q7), ∃ (μ : q8), ((lnZ x.1) = (lnZ x.1) /\ x.1 = x.1 /\ x.1 = x.1 /\ x.2.1 =
  x.2.1 /\ x.2.2.1 = x.2.2.1 /\ I (q34, false, ()) ()) /\ ∀ (y : q9) (z : Unit), (q74 y) -> True -> I y z -> (decide (y.1 < (lnZ x.1)) = true -> (q34 <= y.1 /\ y.1 < (lnZ x.1)) /\ (decide
  (q282 x y) = false -> True) /\ (decide (q282 x y) = false -> True) /\ (decide (q282 x y) = false -> (q281 x y) = true /\ (q281 x y) = true /\ True) /\ (decide (q282 x y) = false -> (q281 x
  y) = true) /\ (q278 x y) /\ (q278 x y) /\ ((q280 x y) = false -> (q279 x y) = true /\ (q279 x y) = true /\ (q34 <= y.1 /\ y.1 <= (lnZ x.1)) /\ True) /\ (q278 x y) /\ ((q280 x y) = false ->
  (q279 x y) = true /\ (q279 x y) = true /\ True /\ (∀ (y_1 : q4), (q41 y_1) -> y_1.1 = decide (List.getD x.1 (Int.toNat y.1) q131 ∈ List.take (Int.toNat y.1) x.1) -> (y_1.1 = true -> false =
  unlikeK x.1 x.2.1 x.2.2.1) /\ (y_1.1 = false -> (lnZ x.1) = (lnZ x.1) /\ x.1 = x.1 /\ x.1 = x.1 /\ x.2.1 = x.2.1 /\ x.2.2.1 = x.2.2.1 /\ I (wrZ (y.1 + q334), y.2.1, ()) () /\ μ (wrZ (y.1 +
  q334), y.2.1, ()) () < μ y z)) /\ True) /\ ((q280 x y) = !false -> false = unlikeK x.1 x.2.1 x.2.2.1)) /\ (decide (y.1 < (lnZ x.1)) = false -> true = unlikeK x.1 x.2.1 x.2.2.1)
theorem e57 : t57 = Con.vc c_ext_unlike GL (mkEnvO ty [(107, conSem c_slices_Contains_int_int)] [] [] [0, 1, 2, 6, 7, 8, 9, 10, 11, 12, 30] [1000000]) {} Tryz.f57.ntmps Tryz.f57.results.toList (bodyOf Tryz.f57) := by kernel_rfl
theorem k57 : t57 := by
  unfold t57
  delta q144 wiZ q7 q8 lnZ q34 q9 q74 q282 q281 q278 q280 q279 q4 q41 q131 wrZ q334 q425 wbZ q382 q429 q407 q453
  rintro ⟨l, lo, up, _⟩ hx hp
  have hl : l.length ≤ 9223372036854775807 := hx.1.1
  try dsimp +instances only [dft_int, dft_sl, dft_str]
  simp only [true_and, and_true, eq_self_iff_true, implies_true, reduceCtorEq, false_implies, true_implies, decide_eq_true_eq, decide_eq_false_iff_not, beq_self_eq_true, Bool.not_eq_true', ne_eq, Decidable.not_not, List.nil_append, List.length_singleton, List.length_cons, List.length_nil, Nat.zero_add, Nat.add_zero, Nat.mul_one, and_self, beq_iff_eq, Bool.not_true, Bool.not_false, Bool.not_eq_false', Bool.cond_false_right, Bool.and_eq_true, imp_self, Bool.not_eq_true, Bool.cond_true_left, Bool.or_eq_true]
  refine ⟨fun y _ => 0 ≤ y.1 ∧ y.1 ≤ l.length ∧ unlikeK (l.take y.1.toNat) lo up = true, fun y _ => ((l.length : Int) - y.1).toNat, ⟨Int.le_refl 0, by simp only; omega, by simp [unlike_nil]⟩, ?_⟩
  rintro ⟨i, r, _⟩ _ _ ⟨h0, h1, h2⟩
  simp only at h0 h1 h2 ⊢
  refine ⟨fun hi => ?_, fun hi => ?_⟩
  . have hs := unlike_step (l := l) (i := i.toNat) (by omega) lo up h2
    refine ⟨⟨h0, hi⟩, fun h => ⟨h, h, h0, by omega⟩, fun h => ⟨h, h, ?_⟩, fun h => ?_⟩
    . rintro ⟨y, _⟩ _ e
      simp only at e ⊢
      obtain ⟨h3, h4⟩ := Bool.or_eq_false_iff.1 h
      have h3 := of_decide_eq_false h3
      have h4 := of_decide_eq_false h4
      rw [decide_eq_true (show lo ≤ l.getD i.toNat 0 by omega), decide_eq_true (show l.getD i.toNat 0 ≤ up by omega), Bool.true_and, Bool.true_and] at hs
      refine ⟨fun hy => ?_, fun hy => ?_⟩
      . have hm := of_decide_eq_true (e.symm.trans hy)
        rw [decide_eq_false (fun hc => hc hm)] at hs
        exact (unlike_bad hs).symm
      . have hm := of_decide_eq_false (e.symm.trans hy)
        rw [decide_eq_true hm] at hs
        rw [wrapM (i + 1) (by omega) (by omega)]
        exact ⟨⟨by omega, by omega, by rw [show (i + 1).toNat = i.toNat + 1 by omega]; exact hs⟩, by omega⟩
    . refine (unlike_bad (i := i.toNat + 1) (hs.trans ?_)).symm
      rcases h with h | h
      . rw [decide_eq_false (show ¬ lo ≤ l.getD i.toNat 0 by omega), Bool.false_and]
      . rw [decide_eq_false (show ¬ l.getD i.toNat 0 ≤ up by omega), Bool.false_and, Bool.and_false]
  . rw [take_all (by omega)] at h2
    exact h2.symm
theorem h57 : c_ext_unlike.ok Tryz.prog GL 57 := conO_ok (H := {}) (mkEnvO_ok (gl := GL) (l := [(107, conSem c_slices_Contains_int_int)]) (q := []) (d := []) _ [1000000] tyOk (by kernel_rfl) ⟨h107.call, trivial⟩ trivial trivial) (by kernel_rfl) (by kernel_rfl) (Eq.mp e57 k57)
def t66 : Prop :=
  ∀ (x : q2), (wyZ x.1 /\ Kd.wf q144 x.2.1 /\ True) -> True -> True /\ (∀ (y : q0), (q162 y) -> (y.1, y.2.1) = DecD x.1 -> (decide (q247 y) = true -> True) /\ (q285 y) /\ (decide (q247 y) =
  true -> True) /\ (q285 y) /\ (q285 y) /\ (q283 y) /\ (decide (q247 y) = true -> (decide (y.2.1 = q421) == true) = true) /\ ((q284 y x) = true -> True) /\ ((q284 y x) = true -> True) /\
  ((q284 y x) = true -> ((q284 y x) == true) = true /\ ((q284 y x) == true) = true /\ True /\ (∀ (y_1 : q4), (q41 y_1) -> y_1.1 = decide (List.take (List.length x.2.1) y.1 = x.2.1) -> True /\
  (∀ (y_2 : Unit), True -> y_1.1 = true -> (q34 <= (lnZ x.2.1) /\ (lnZ x.2.1) < (lnZ y.1)) /\ lastO x.1 x.2.1 = (List.getD y.1 (Int.toNat (lnZ x.2.1)) q131, true)) /\ ∀ (y : Unit), Kd.wf
  Kd.unit y -> y_1.1 = false -> (lastO x.1 x.2.1).2 = false) /\ True) /\ ((q284 y x) = !true -> True /\ (∀ (y_1 : Unit), True -> false = true -> (q34 <= (lnZ x.2.1) /\ (lnZ x.2.1) < (lnZ
  y.1)) /\ lastO x.1 x.2.1 = (List.getD y.1 (Int.toNat (lnZ x.2.1)) q131, true)) /\ ∀ (y : Unit), Kd.wf Kd.unit y -> false = false -> (lastO x.1 x.2.1).2 = false)) /\ True
theorem e66 : t66 = Con.vc c_ext_last GL (mkEnvO ty [(113, conSem c_oid_Decode), (114, conSem c_oid_Begins), (42, conSem c_ext_must)] [] [] [0, 1, 4, 5, 6] [1000000]) {} Tryz.f66.ntmps Tryz.f66.results.toList (bodyOf Tryz.f66) := by kernel_rfl
theorem k66 : t66 := by
  unfold t66
  delta q2 wyZ q144 q0 q162 q247 q285 q283 q421 q284 q4 q41 q34 lnZ q131 q425 wiZ q332 wrZ q334 wbZ
  rintro ⟨b, a, _⟩ hx hp
  have ha : a.length ≤ 9223372036854775807 := hx.2.1.1
  try dsimp +instances only [dft_int, dft_sl, dft_str]
  simp only [true_and, and_true, eq_self_iff_true, implies_true, reduceCtorEq, false_implies, true_implies, decide_eq_true_eq, decide_eq_false_iff_not, beq_self_eq_true, Bool.not_eq_true', ne_eq, Decidable.not_not, List.nil_append, List.length_singleton, List.length_cons, List.length_nil, Nat.zero_add, Nat.add_zero, Nat.mul_one, and_self, beq_iff_eq, Bool.not_true, Bool.not_false, Bool.not_eq_false', Bool.cond_false_right, Bool.and_eq_true, imp_self, Bool.not_eq_true, Bool.cond_true_left, Bool.or_eq_true]
  rintro ⟨m, f, _⟩ _ e
  simp only at e ⊢
  have hm : m.length ≤ 20 := by have := decD_len b; rw [← e] at this; exact this
  have key : ((m.length : Int) = IntKind.i64.wrap ((a.length : Int) + 1)) ↔ m.length = a.length + 1 := by
    rw [IntKind.wrap_i64]; omega
  have hL : lastO b a = if f = 0 ∧ m.length = a.length + 1 ∧ m.take a.length = a then (m.getD a.length 0, true) else (0, false) := by rw [lastO, ← e]
  refine ⟨fun h => ⟨h, h, ?_⟩, fun h _ _ => ?_⟩
  . rintro ⟨y, _⟩ _ e2
    simp only at e2 ⊢
    have hk := key.1 h.2
    refine ⟨fun _ hy => ⟨⟨by omega, by omega⟩, ?_⟩, fun _ _ hy => ?_⟩
    . rw [hL, if_pos ⟨h.1, hk, of_decide_eq_true (e2.symm.trans hy)⟩, Int.toNat_natCast]
    . rw [hL, if_neg]
      rintro ⟨_, _, h3⟩
      rw [decide_eq_true h3] at e2
      rw [e2] at hy
      cases hy
  . rw [hL, if_neg]
    rintro ⟨h1, h2, _⟩
    rw [decide_eq_true h1, decide_eq_true (key.2 h2)] at h
    cases h
theorem h66 : c_ext_last.ok Tryz.prog GL 66 := conO_ok (H := {}) (mkEnvO_ok (gl := GL) (l := [(113, conSem c_oid_Decode), (114, conSem c_oid_Begins), (42, conSem c_ext_must)]) (q := []) (d := []) _ [1000000] tyOk (by kernel_rfl) ⟨h113.call, h114.call, h42.call, trivial⟩ trivial trivial) (by kernel_rfl) (by kernel_rfl) (Eq.mp e66 k66)
def t68 : Prop :=
  ∀ (x : List q289 × Unit), Kd.wf q287 x.1 /\ True -> lenX x.1 <= q252 -> ∃ (I : Int × Bool × Unit -> List Int × Unit -> Prop), ∃ (μ : Int × Bool × Unit -> List Int × Unit -> Nat), ((lnZ x.1)
  = (lnZ x.1) /\ x.1 = x.1 /\ x.1 = x.1 /\ I (q34, false, ()) ([], ())) /\ ∀ (y : q9) (z : q5), (q74 y) -> (q130 z) -> I y z -> (decide (y.1 < (lnZ x.1)) = true -> (q34 <= y.1 /\ y.1 < (lnZ
  x.1)) /\ (3 : Nat) <= q61 /\ (decide ((65536 : Int) < (lnZ (q286 x y).2.2)) = true -> false = mayX x.1) /\ (decide ((65536 : Int) < (lnZ (q286 x y).2.2)) = false -> q63 < q36 /\
  (List.length z.1 + List.length [(q286 x y).1]) * q66 <= q94 /\ List.length z.1 + List.length [(q286 x y).1] <= q93 /\ (lnZ x.1) = (lnZ x.1) /\ x.1 = x.1 /\ x.1 = x.1 /\ I (wrZ (y.1 + q334),
  y.2.1, ()) (z.1 ++ [(q286 x y).1], ()) /\ μ (wrZ (y.1 + q334), y.2.1, ()) (z.1 ++ [(q286 x y).1], ()) < μ y z)) /\ (decide (y.1 < (lnZ x.1)) = false -> (decide (q62 <= (lnZ x.1)) = true ->
  True) /\ (decide (q62 <= (lnZ x.1)) = true -> (decide (q62 <= (lnZ x.1)) == true) = true /\ True) /\ (decide (q62 <= (lnZ x.1)) = true -> (decide (q62 <= (lnZ x.1)) == true) = true /\ True)
  /\ (decide (q62 <= (lnZ x.1)) = true -> (decide (q62 <= (lnZ x.1)) == true) = true) /\ ((q288 x) = true -> True) /\ ((q288 x) = true -> ((q288 x) == true) = true /\ True /\ (∀ (y : q4),
  (q41 y) -> y.1 = unlikeK z.1 q34 (127 : Int) -> y.1 = mayX x.1) /\ True) /\ ((q288 x) = !true -> false = mayX x.1))
theorem e68 : t68 = Con.vc c_ext_may GL (mkEnvO ty [(57, conSem c_ext_unlike)] [] [] [0, 2, 3, 5, 6, 7, 8, 9, 15] [1000000]) {} Tryz.f68.ntmps Tryz.f68.results.toList (bodyOf Tryz.f68) := by kernel_rfl
theorem k68 : t68 := by
  unfold t68
  delta q289 q287 q252 lnZ q34 q9 q5 q74 q130 q61 q286 q63 q36 q66 q94 q93 wrZ q334 q62 q288 q4 q41 q436 wiZ wbZ q425 q408 q453 q451
  rintro ⟨l, _⟩ hx hp
  have hl : l.length ≤ 2000000 := hp
  try dsimp +instances only [dft_int, dft_sl, dft_str]
  simp only [true_and, and_true, eq_self_iff_true, implies_true, reduceCtorEq, false_implies, true_implies, decide_eq_true_eq, decide_eq_false_iff_not, beq_self_eq_true, Bool.not_eq_true', ne_eq, Decidable.not_not, List.nil_append, List.length_singleton, List.length_cons, List.length_nil, Nat.zero_add, Nat.add_zero, Nat.mul_one, and_self, beq_iff_eq, Bool.not_true, Bool.not_false, Bool.not_eq_false', Bool.cond_false_right, Bool.and_eq_true, imp_self, Bool.not_eq_true, Bool.cond_true_left, Bool.or_eq_true]
  have hd : ((Kd.int IntKind.i64).pair (Kd.bool.pair (Kd.int IntKind.u8).sl)).dft = xdft := rfl
  try simp only [hd]
  refine ⟨fun y z => 0 ≤ y.1 ∧ y.1 ≤ l.length ∧ z.1 = (l.take y.1.toNat).map (fun x => x.1) ∧ ∀ x ∈ l.take y.1.toNat, x.2.2.length ≤ 65536, fun y _ => ((l.length : Int) - y.1).toNat, ⟨Int.le_refl 0, by simp only; omega, by simp, by simp⟩, ?_⟩
  rintro ⟨i, r, _⟩ ⟨ids, _⟩ _ _ ⟨h0, h1, h2, h3⟩
  simp only at h0 h1 h2 h3 ⊢
  refine ⟨fun hi => ⟨⟨h0, hi⟩, by decide, fun h => ?_, fun h => ?_⟩, fun hi => ?_⟩
  . cases hm : mayX l with
    | false => rfl
    | true =>
      have := ((mayX_args hm).2.2 (l.getD i.toNat xdft) (gd_mem l xdft i.toNat (by omega))).1
      exact absurd h (by omega)
  . have hlen : ids.length = i.toNat := by rw [h2, List.length_map, List.length_take]; omega
    rw [wrapM (i + 1) (by omega) (by omega)]
    refine ⟨by decide, by omega, by omega, ⟨by omega, by omega, ?_, ?_⟩, by omega⟩
    . rw [show (i + 1).toNat = i.toNat + 1 by omega, map_take _ l xdft i.toNat (by omega), h2]
    . rw [show (i + 1).toNat = i.toNat + 1 by omega]
      exact all_take xdft (by omega) h3 (by omega)
  . rw [take_all (by omega)] at h2 h3
    refine ⟨fun h => ⟨h, ?_⟩, fun h => ?_⟩
    . rintro ⟨y, _⟩ _ e
      simp only at e ⊢
      have hne : l ≠ [] := fun hc => by rw [hc] at h; exact absurd h.1 (by decide)
      have h4 : (l.all fun x => decide (x.2.2.length ≤ 65536)) = true := List.all_eq_true.2 fun x hx => decide_eq_true (h3 x hx)
      rw [e, h2, mayX, decide_eq_true hne, decide_eq_true (show l.length ≤ 16 by omega), h4]
      rfl
    . cases hm : mayX l with
      | false => rfl
      | true =>
        obtain ⟨h4, h5, _⟩ := mayX_args hm
        have : 1 ≤ l.length := List.length_pos_iff.2 h4
        rw [decide_eq_true (show (1 : Int) ≤ l.length by omega), decide_eq_true (show (l.length : Int) ≤ 16 by omega)] at h
        cases h
theorem h68 : c_ext_may.ok Tryz.prog GL 68 := conO_ok (H := {}) (mkEnvO_ok (gl := GL) (l := [(57, conSem c_ext_unlike)]) (q := []) (d := []) _ [1000000] tyOk (by kernel_rfl) ⟨h57.call, trivial⟩ trivial trivial) (by kernel_rfl) (by kernel_rfl) (Eq.mp e68 k68)
def t55 : Prop :=
  ∀ (x : q1), (q30 x) -> q34 <= x.1 /\ x.1 <= (1000 : Int) -> (decide (x.1 = q64) = true -> wrZ ((160 : Int) + x.1) = tagG x.1) /\ (decide (x.1 = q64) = false -> wrZ (q75 + x.1) = tagG x.1)
theorem e55 : t55 = Con.vc c_ext_tag GL (mkEnvO ty [] [] [] [0, 2, 4] [1000000]) {} Tryz.f55.ntmps Tryz.f55.results.toList (bodyOf Tryz.f55) := by kernel_rfl
theorem k55 : t55 := by
  unfold t55
  delta q1 q30 q34 q64 wrZ q75 wiZ
  rintro ⟨k, _⟩ hx hp
  have hp : 0 ≤ k ∧ k ≤ 1000 := hp
  try dsimp +instances only [dft_int, dft_sl, dft_str]
  simp only [true_and, and_true, eq_self_iff_true, implies_true, reduceCtorEq, false_implies, true_implies, decide_eq_true_eq, decide_eq_false_iff_not, beq_self_eq_true, Bool.not_eq_true', ne_eq, Decidable.not_not, List.nil_append, List.length_singleton, List.length_cons, List.length_nil, Nat.zero_add, Nat.add_zero, Nat.mul_one, and_self, beq_iff_eq, Bool.not_true, Bool.not_false, Bool.not_eq_false', Bool.cond_false_right, Bool.and_eq_true, imp_self, Bool.not_eq_true, Bool.cond_true_left, Bool.or_eq_true]
  exact ⟨fun h => by rw [tagG, if_pos h, wrapM _ (by omega) (by omega)]; omega, fun h => by rw [tagG, if_neg h, wrapM _ (by omega) (by omega)]⟩
theorem h55 : c_ext_tag.ok Tryz.prog GL 55 := conO_ok (H := {}) (mkEnvO_ok (gl := GL) (l := []) (q := []) (d := []) _ [1000000] tyOk (by kernel_rfl) trivial trivial trivial) (by kernel_rfl) (by kernel_rfl) (Eq.mp e55 k55)
def t63 : Prop :=
  ∀ (x : q10), (Kd.wf q365 x.1 /\ True) -> isTagD x.1.1 = true -> List.length [SV.dat q90 x.1.1, SV.dat q275 x.1.2] <= q61 /\ True /\ ((q34 <= wrZ (q290 x) /\ wrZ (q290 x) <= (1000 : Int)) /\
  (∀ (y : q1), (q30 y) -> y.1 = tagG (wrZ (q290 x)) -> (True /\ (∀ (y_1 : Unit), True -> decide (x.1.1 = y.1) = true -> okE x.1 = true /\ (wrZ (q290 x), x.1.2) = genE x.1) /\ ∀ (y_1 : Unit),
  Kd.wf Kd.unit y_1 -> decide (x.1.1 = y.1) = false -> okE x.1 = false) /\ True) /\ True) /\ True
theorem e63 : t63 = Con.vc c_ext_general GL (mkEnvO ty [(55, conSem c_ext_tag), (42, conSem c_ext_must)] [] [] [0, 1, 2, 3, 4] [1000000,3000001]) {} Tryz.f63.ntmps Tryz.f63.results.toList (bodyOf Tryz.f63) := by kernel_rfl
theorem k63 : t63 := by
  unfold t63
  delta q10 q365 q90 q275 q61 q34 wrZ q290 q1 q30 q425 q451 q371 wiZ
  rintro ⟨⟨t, c⟩, _⟩ hx hp
  have hp : isTagD t = true := hp
  have ht := tag_range hp
  try dsimp +instances only [dft_int, dft_sl, dft_str]
  simp only [true_and, and_true, eq_self_iff_true, implies_true, reduceCtorEq, false_implies, true_implies, decide_eq_true_eq, decide_eq_false_iff_not, beq_self_eq_true, Bool.not_eq_true', ne_eq, Decidable.not_not, List.nil_append, List.length_singleton, List.length_cons, List.length_nil, Nat.zero_add, Nat.add_zero, Nat.mul_one, and_self, beq_iff_eq, Bool.not_true, Bool.not_false, Bool.not_eq_false', Bool.cond_false_right, Bool.and_eq_true, imp_self, Bool.not_eq_true, Bool.cond_true_left, Bool.or_eq_true]
  simp only [and31 ht.1 ht.2.1]
  refine ⟨by decide, ⟨by omega, by omega⟩, ?_⟩
  rintro ⟨y, _⟩ _ e
  simp only at e ⊢
  refine ⟨fun _ h => ⟨?_, rfl⟩, fun _ _ h => ?_⟩
  . exact decide_eq_true (h.trans e)
  . exact decide_eq_false (fun hc => h (hc.trans e.symm))
theorem h63 : c_ext_general.ok Tryz.prog GL 63 := conO_ok (H := {}) (mkEnvO_ok (gl := GL) (l := [(55, conSem c_ext_tag), (42, conSem c_ext_must)]) (q := []) (d := []) _ [1000000,3000001] tyOk (by kernel_rfl) ⟨h55.call, h42.call, trivial⟩ trivial trivial) (by kernel_rfl) (by kernel_rfl) (Eq.mp e63 k63)
def t19 : Prop :=
  ∀ (x : q5), (q130 x) -> True -> (decide (q120 x) = false -> True) /\ (q250 x) /\ (q250 x) /\ (decide (q120 x) = false -> (q251 x) = true) /\ ((q291 x) = false -> True) /\ ((q291 x) = false
  -> ((q291 x) == false) = true /\ True /\ (∀ (y : q4), (q41 y) -> y.1 = unlikeK x.1 q62 (127 : Int) -> ((!y.1) = true -> ([], q263) = PurposesD x.1) /\ ((!y.1) = false -> ∃ (I : q24), ∃ (μ :
  q25), ((lnZ x.1) = (lnZ x.1) /\ x.1 = x.1 /\ Value.bool false = Value.bool false /\ q34 = q34 /\ Value.slice none q63 q63 = Value.slice none q63 q63 /\ x.1 = x.1 /\ I (q34, ()) ([], ())) /\
  ∀ (y : q1) (z : q11), (q30 y) -> (q100 z) -> I y z -> (decide (y.1 < (lnZ x.1)) = true -> (q34 <= y.1 /\ y.1 < (lnZ x.1)) /\ True /\ (∀ (y_1 : q0), (q135 y_1) -> (y_1.1, y_1.2.1) = EncO
  [q62, (3 : Int), q333, q62, (5 : Int), (5 : Int), q415, (3 : Int), List.getD x.1 (q330 y) q131] -> (q292 y_1) /\ (∀ (y_2 : q5), (q96 y_2) -> y_2.1 = putB (q333, List.flatten [y_1.1]) -> q63
  < q36 /\ (List.length z.1 + List.length [y_2.1]) * (24 : Nat) <= q94 /\ List.length z.1 + List.length [y_2.1] <= q93 /\ (lnZ x.1) = (lnZ x.1) /\ x.1 = x.1 /\ Value.bool false = Value.bool
  false /\ q34 = q34 /\ Value.slice none q63 q63 = Value.slice none q63 q63 /\ x.1 = x.1 /\ I (wrZ (q138 y), ()) (z.1 ++ [y_2.1], ()) /\ μ (wrZ (q138 y), ()) (z.1 ++ [y_2.1], ()) < μ y z) /\
  True) /\ True) /\ (decide (y.1 < (lnZ x.1)) = false -> (isTagD q73 = true /\ lenF z.1 <= q257) /\ (∀ (y : q5), (q96 y) -> y.1 = putB (q73, List.flatten z.1) -> (y.1, q34) = PurposesD x.1)
  /\ True))) /\ True) /\ ((q291 x) = !false -> ([], q263) = PurposesD x.1)
theorem e19 : t19 = Con.vc c_ext_Purposes GL (mkEnvO ty [(57, conSem c_ext_unlike), (58, conSem c_oid_Encode), (43, conSem c_ext_wrap)] [] [] [0, 2, 3, 4, 6, 7, 21, 22, 23, 24, 25] [1000000]) {} Tryz.f19.ntmps Tryz.f19.results.toList (bodyOf Tryz.f19) := by kernel_rfl
theorem k19 : t19 := by
  unfold t19
  delta q5 q130 q120 q250 q251 q291 q4 q41 q62 q263 q24 q25 lnZ q34 q63 q1 q11 q30 q100 q0 q135 q333 q415 q330 q131 q292 q96 q36 q94 q93 wrZ q138 q73 q257 q425 q332 wbZ wiZ q341 wyZ q364 q334 q451
  rintro ⟨l, _⟩ hx hp
  try dsimp +instances only [dft_int, dft_sl, dft_str]
  simp only [true_and, and_true, eq_self_iff_true, implies_true, reduceCtorEq, false_implies, true_implies, decide_eq_true_eq, decide_eq_false_iff_not, beq_self_eq_true, Bool.not_eq_true', ne_eq, Decidable.not_not, List.nil_append, List.length_singleton, List.length_cons, List.length_nil, Nat.zero_add, Nat.add_zero, Nat.mul_one, and_self, beq_iff_eq, Bool.not_true, Bool.not_false, Bool.not_eq_false', Bool.cond_false_right, Bool.and_eq_true, imp_self, Bool.not_eq_true, Bool.cond_true_left, Bool.or_eq_true]
  refine ⟨fun h => ⟨h, ?_⟩, fun h => ?_⟩
  . obtain ⟨q1, q2⟩ := Bool.or_eq_false_iff.1 h
    have q1 := of_decide_eq_false q1
    have q2 := of_decide_eq_false q2
    have hne : l ≠ [] := fun e => q1 (by rw [e]; rfl)
    rintro ⟨y, _⟩ _ e
    simp only at e ⊢
    refine ⟨fun hy => ?_, fun hy => ?_⟩
    . rw [PurposesD, if_pos (.inr (.inr (e.symm.trans hy)))]
    . have hu : unlikeK l 1 127 = true := e.symm.trans hy
      have hin := unlike_in hu
      have hP : PurposesD l = (putB (48, l.flatMap purB), 0) := by
        rw [PurposesD, if_neg]
        rintro (h | h | h)
        . exact hne h
        . omega
        . rw [hu] at h; cases h
      have hfl := flat_le purB 60 l (fun n _ => purB_len n)
      rw [hP]
      refine ⟨fun y z => 0 ≤ y.1 ∧ y.1 ≤ l.length ∧ z.1.length = y.1.toNat ∧ z.1.flatten = (l.take y.1.toNat).flatMap purB, fun y _ => ((l.length : Int) - y.1).toNat, ⟨Int.le_refl 0, by simp only; omega, rfl, rfl⟩, ?_⟩
      rintro ⟨i, _⟩ ⟨zs, _⟩ _ _ ⟨h0, h1, h2, h3⟩
      simp only at h0 h1 h2 h3 ⊢
      refine ⟨fun hi => ⟨⟨h0, hi⟩, ?_⟩, fun hi => ?_⟩
      . rintro ⟨c, f, _⟩ _ e2
        simp only at e2 ⊢
        have hm := hin _ (gd_mem l 0 i.toNat (by omega))
        have hmay : mayO (purA ++ [l.getD i.toNat 0]) = true := pur_may (by omega) hm.2
        have e3 : EncO [1, 3, 6, 1, 5, 5, 7, 3, l.getD i.toNat 0] = (encO (purA ++ [l.getD i.toNat 0]), 0) := if_pos hmay
        rw [e3] at e2
        obtain ⟨rfl, rfl⟩ := Prod.mk.inj e2
        have hlen := encO_len (purA ++ [l.getD i.toNat 0])
        have h9 : (purA ++ [l.getD i.toNat 0]).length = 9 := rfl
        simp only [flat_one]
        refine ⟨⟨by decide, by rw [lenF, flat_one]; omega⟩, ?_⟩
        rintro ⟨d, _⟩ _ e4
        simp only at e4 ⊢
        subst e4
        rw [wrapM (i + 1) (by omega) (by omega)]
        refine ⟨by decide, by omega, by omega, ⟨by omega, by omega, by rw [List.length_append]; simp only [List.length_cons, List.length_nil]; omega, ?_⟩, by omega⟩
        rw [show (i + 1).toNat = i.toNat + 1 by omega, flat_take purB l 0 i.toNat (by omega), List.flatten_append, h3, flat_one]
        rfl
      . rw [take_all (by omega)] at h3
        refine ⟨⟨by decide, by rw [lenF, h3]; omega⟩, ?_⟩
        rintro ⟨d, _⟩ _ e4
        simp only at e4 ⊢
        rw [e4, h3]
  . rw [PurposesD, if_pos]
    rcases h with h | h
    . exact .inl (List.length_eq_zero_iff.1 (by omega))
    . exact .inr (.inl (by omega))
theorem h19 : c_ext_Purposes.ok Tryz.prog GL 19 := conO_ok (H := {}) (mkEnvO_ok (gl := GL) (l := [(57, conSem c_ext_unlike), (58, conSem c_oid_Encode), (43, conSem c_ext_wrap)]) (q := []) (d := []) _ [1000000] tyOk (by kernel_rfl) ⟨h57.call, h58.call, h43.call, trivial⟩ trivial trivial) (by kernel_rfl) (by kernel_rfl) (Eq.mp e19 k19)
noncomputable def i112 : DefSem := vcDef (mkEnv ty [] [] [] [0, 1, 2, 4, 5, 8, 15]) {} Tryz.f112.ntmps Tryz.f112.results.toList (bodyOf Tryz.f112)
theorem i112_ok : DefOk Tryz.prog GL 112 i112 := def_ok {} (mkEnv_ok (gl := GL) (l := []) (q := []) (d := []) _ tyOk (by kernel_rfl) trivial trivial trivial) (by kernel_rfl) (by kernel_rfl)
noncomputable def i65 : CallSem := vcFn (mkEnvO ty [(50, conSem c_ext_inside), (42, conSem c_ext_must), (66, conSem c_ext_last), (57, conSem c_ext_unlike)] [] [] [0, 1, 2, 4, 6, 7, 8, 9] [1000000]) {} Tryz.f65.ntmps Tryz.f65.results.toList (bodyOf Tryz.f65)
theorem i65_ok : CallOk Tryz.prog GL 65 i65 := inlO_ok {} (mkEnvO_ok (gl := GL) (l := [(50, conSem c_ext_inside), (42, conSem c_ext_must), (66, conSem c_ext_last), (57, conSem c_ext_unlike)]) (q := []) (d := []) _ [1000000] tyOk (by kernel_rfl) ⟨h50.call, h42.call, h66.call, h57.call, trivial⟩ trivial trivial) (by kernel_rfl) (by kernel_rfl)
noncomputable def i64 : CallSem := vcFn (mkEnv ty [(65, i65)] [] [(112, i112)] [0, 2, 3]) {} Tryz.f64.ntmps Tryz.f64.results.toList (bodyOf Tryz.f64)
theorem i64_ok : CallOk Tryz.prog GL 64 i64 := inl_ok {} (mkEnv_ok (gl := GL) (l := [(65, i65)]) (q := []) (d := [(112, i112)]) _ tyOk (by kernel_rfl) ⟨i65_ok, trivial⟩ trivial ⟨i112_ok, trivial⟩) (by kernel_rfl) (by kernel_rfl)
def t23 : Prop :=
  ∀ (x : q5), (q96 x) -> lenB x.1 <= q252 -> List.length [SV.dat q275 x.1] <= q61 /\ q36 <= q61 /\ q36 <= q61 /\ lenB x.1 <= q252 /\ (∀ (y : q23), (q272 y) -> insD x.1 q73 = (y.1, true) -> ∃
  (I : Int × Unit -> q126 × Unit × (Int × Unit) × List q127 × List Int × List Int × Unit -> Prop), ∃ (μ : Int × Unit -> q126 × Unit × (Int × Unit) × List q127 × List Int × List Int × Unit ->
  Nat), ((lnZ y.1) = (lnZ y.1) /\ Value.slice none q63 q63 = Value.slice none q63 q63 /\ q34 = q34 /\ Value.slice none q63 q63 = Value.slice none q63 q63 /\ x.1 = x.1 /\ I (q34, ()) ((x.1,
  ()), (), (q34, ()), y.1, [], [], ())) /\ ∀ (y_1 : q1) (z : q126 × Unit × (Int × Unit) × List q127 × List Int × List Int × Unit), (q30 y_1) -> (wyZ z.1.1 /\ True) /\ True /\ (wiZ z.2.2.1.1
  /\ True) /\ (Kd.wf q125 z.2.2.2.1 /\ Kd.wf q144 z.2.2.2.2.1 /\ Kd.wf q144 z.2.2.2.2.2.1 /\ True) -> I y_1 z -> (decide (y_1.1 < (lnZ y.1)) = true -> (q34 <= y_1.1 /\ y_1.1 < (lnZ
  z.2.2.2.1)) /\ q65 <= q61 /\ True /\ (∀ (y_2 : Unit), True -> decide ((q293 z y_1).1 = q333) = true -> True /\ (∀ (y_3 : q1), (q30 y_3) -> lastO (q293 z y_1).2 [q62, (3 : Int), q333, q62,
  (5 : Int), (5 : Int), q415, (3 : Int)] = (y_3.1, true) -> q63 < q36 /\ (List.length z.2.2.2.2.1 + List.length [y_3.1]) * q66 <= q94 /\ List.length z.2.2.2.2.1 + List.length [y_3.1] <= q93
  /\ (lnZ y.1) = (lnZ y.1) /\ Value.slice none q63 q63 = Value.slice none q63 q63 /\ q34 = q34 /\ Value.slice none q63 q63 = Value.slice none q63 q63 /\ x.1 = x.1 /\ I (wrZ (q138 y_1), ())
  ((z.1.1, ()), (), (z.2.2.1.1, ()), z.2.2.2.1, z.2.2.2.2.1 ++ [y_3.1], z.2.2.2.2.2.1, ()) /\ μ (wrZ (q138 y_1), ()) ((z.1.1, ()), (), (z.2.2.1.1, ()), z.2.2.2.1, z.2.2.2.2.1 ++ [y_3.1],
  z.2.2.2.2.2.1, ()) < μ y_1 z) /\ ∀ (y : Unit), Kd.wf Kd.unit y -> (lastO (q293 z y_1).2 [q62, (3 : Int), q333, q62, (5 : Int), (5 : Int), q415, (3 : Int)]).2 = false -> q63 <= q61 /\ ([],
  q263) = ToPurposesD x.1) /\ ∀ (y : Unit), Kd.wf Kd.unit y -> decide ((q293 z y_1).1 = q333) = false -> q63 <= q61 /\ ([], q263) = ToPurposesD x.1) /\ (decide (y_1.1 < (lnZ y.1)) = false ->
  (decide (q332 < (lnZ z.2.2.2.2.1)) = true -> True) /\ (decide (q332 < (lnZ z.2.2.2.2.1)) = true -> (decide (q332 < (lnZ z.2.2.2.2.1)) == true) = true /\ True) /\ (decide (q332 < (lnZ
  z.2.2.2.2.1)) = true -> (decide (q332 < (lnZ z.2.2.2.2.1)) == true) = true /\ True) /\ (decide (q332 < (lnZ z.2.2.2.2.1)) = true -> (decide (q332 < (lnZ z.2.2.2.2.1)) == true) = true) /\
  ((q294 z) = true -> True) /\ ((q294 z) = true -> ((q294 z) == true) = true /\ True /\ (∀ (y : q4), (q41 y) -> y.1 = unlikeK z.2.2.2.2.1 q62 (127 : Int) -> True /\ (∀ (y_2 : Unit), True ->
  y.1 = true -> (z.2.2.2.2.1, q34) = ToPurposesD x.1) /\ ∀ (y_2 : Unit), Kd.wf Kd.unit y_2 -> y.1 = false -> q63 <= q61 /\ ([], q263) = ToPurposesD x.1) /\ True) /\ ((q294 z) = !true -> True
  /\ (∀ (y : Unit), True -> false = true -> (z.2.2.2.2.1, q34) = ToPurposesD x.1) /\ ∀ (y : Unit), Kd.wf Kd.unit y -> false = false -> q63 <= q61 /\ ([], q263) = ToPurposesD x.1))) /\ ∀ (y :
  Unit), Kd.wf Kd.unit y -> (insD x.1 q73).2 = false -> q63 <= q61 /\ ([], q263) = ToPurposesD x.1
theorem e23 : t23 = Con.vc c_ext_ToPurposes GL (mkEnv ty [(64, i64)] [] [] [0, 1, 2, 3]) {} Tryz.f23.ntmps Tryz.f23.results.toList (bodyOf Tryz.f23) := by kernel_rfl
theorem k23 : t23 := by
  unfold t23
  delta q5 q96 q252 q275 q61 q36 q23 q272 q73 q126 q127 lnZ q63 q34 q1 q30 wyZ wiZ q125 q144 q65 q293 q333 q62 q415 q66 q94 q93 wrZ q138 q263 q332 q294 q4 q41 q371 q387 q365 q425 q330 q353 q334 wbZ q452 q451
  rintro ⟨b, _⟩ hx hp
  have hp : b.length ≤ 2000000 := hp
  try dsimp +instances only [dft_int, dft_sl, dft_str]
  simp only [true_and, and_true, eq_self_iff_true, implies_true, reduceCtorEq, false_implies, true_implies, decide_eq_true_eq, decide_eq_false_iff_not, beq_self_eq_true, Bool.not_eq_true', ne_eq, Decidable.not_not, List.nil_append, List.length_singleton, List.length_cons, List.length_nil, Nat.zero_add, Nat.add_zero, Nat.mul_one, and_self, beq_iff_eq, Bool.not_true, Bool.not_false, Bool.not_eq_false', Bool.cond_false_right, Bool.and_eq_true, imp_self, Bool.not_eq_true, Bool.cond_true_left, Bool.or_eq_true]
  have hdE : ((Kd.int IntKind.i64).pair (Kd.int IntKind.u8).sl).dft = edft := rfl
  try simp only [hdE]
  refine ⟨by decide, by decide, by decide, hp, ?_, fun _ _ h => ⟨by decide, ?_⟩⟩
  . rintro ⟨L, _⟩ _ e
    simp only at e ⊢
    have hLl : L.length ≤ 2000000 := by have := (insD_len b 48).1; rw [e] at this; simp only at this; omega
    have hD : ToPurposesD b = if L.all okP = true ∧ L ≠ [] ∧ L.length ≤ 16 ∧ unlikeK (L.map fun x => (lastO x.2 purA).1) 1 127 = true then (L.map fun x => (lastO x.2 purA).1, 0) else ([], 150) := by
      rw [ToPurposesD, e]; simp only [true_and]
    have hbad : ∀ {i : Nat}, i < L.length → okP (L.getD i edft) = false → ToPurposesD b = ([], 150) := fun hi h => by
      rw [hD, if_neg]
      rintro ⟨h1, _⟩
      rw [List.all_eq_true.1 h1 _ (gd_mem L edft _ hi)] at h
      cases h
    refine ⟨fun y z => 0 ≤ y.1 ∧ y.1 ≤ L.length ∧ z.2.2.2.1 = L ∧ z.2.2.2.2.1 = (L.take y.1.toNat).map (fun x => (lastO x.2 purA).1) ∧ ∀ x ∈ L.take y.1.toNat, okP x = true, fun y _ => ((L.length : Int) - y.1).toNat, ⟨Int.le_refl 0, by simp only; omega, rfl, by simp, by simp⟩, ?_⟩
    rintro ⟨i, _⟩ ⟨⟨z1, _⟩, z2, ⟨z3, _⟩, row, acc, oth, _⟩ _ _ ⟨h0, h1, h2, h3, h4⟩
    simp only at h0 h1 h2 h3 h4 ⊢
    simp only [h2]
    have hal : acc.length = i.toNat := by rw [h3, List.length_map, List.length_take]; omega
    refine ⟨fun hi => ⟨⟨h0, hi⟩, by decide, fun _ h6 => ⟨?_, fun _ _ h => ⟨by decide, ?_⟩⟩, fun _ _ h => ⟨by decide, ?_⟩⟩, fun hi => ?_⟩
    . rintro ⟨n, _⟩ _ e2
      simp only at e2 ⊢
      rw [wrapM (i + 1) (by omega) (by omega)]
      have e3 : lastO (L.getD i.toNat edft).2 purA = (n, true) := e2
      refine ⟨by decide, by omega, by omega, ⟨by omega, by omega, trivial, ?_, ?_⟩, by omega⟩
      . rw [show (i + 1).toNat = i.toNat + 1 by omega, map_take _ L edft i.toNat (by omega), h3, e3]
      . rw [show (i + 1).toNat = i.toNat + 1 by omega]
        refine all_take edft (by omega) h4 ?_
        rw [okP, e3, decide_eq_true h6]; rfl
    . refine (hbad (i := i.toNat) (by omega) ?_).symm
      have h : (lastO (L.getD i.toNat edft).2 purA).2 = false := h
      rw [okP, h, Bool.and_false]
    . refine (hbad (i := i.toNat) (by omega) ?_).symm
      rw [okP, decide_eq_false h, Bool.false_and]
    . rw [take_all (by omega)] at h3 h4
      have hall : L.all okP = true := List.all_eq_true.2 h4
      have hlen : L.length = acc.length := by rw [h3, List.length_map]
      have hne : L ≠ [] ↔ 0 < (acc.length : Int) := by
        rw [← hlen]
        constructor
        . intro h; have := List.length_pos_iff.2 h; omega
        . intro h hc; rw [hc] at h; exact absurd h (by decide)
      rw [← h3, hall, hlen] at hD
      refine ⟨fun h => ⟨h, ?_⟩, fun h _ _ => ⟨by decide, ?_⟩⟩
      . rintro ⟨y, _⟩ _ e2
        simp only at e2 ⊢
        refine ⟨fun _ hy => ?_, fun _ _ hy => ⟨by decide, ?_⟩⟩
        . rw [hD, if_pos ⟨rfl, hne.2 h.1, by omega, e2.symm.trans hy⟩]
        . rw [hD, if_neg]
          rintro ⟨_, _, _, hc⟩
          rw [← e2, hy] at hc; cases hc
      . rw [hD, if_neg]
        rintro ⟨_, hc, hc2, _⟩
        rw [decide_eq_true (hne.1 hc), decide_eq_true (show (acc.length : Int) ≤ 16 by omega)] at h
        cases h
  . rw [ToPurposesD, if_neg]
    rintro ⟨h1, _⟩
    rw [h] at h1; cases h1
theorem h23 : c_ext_ToPurposes.ok Tryz.prog GL 23 := con_ok (H := {}) (mkEnv_ok (gl := GL) (l := [(64, i64)]) (q := []) (d := []) _ tyOk (by kernel_rfl) ⟨i64_ok, trivial⟩ trivial trivial) (by kernel_rfl) (by kernel_rfl) (Eq.mp e23 k23)
def t17 : Prop :=
  ∀ (x : q23), (Kd.wf q169 x.1 /\ True) -> lenG x.1 <= q252 -> (decide ((lnZ x.1) = q34) = false -> True) /\ (decide ((lnZ x.1) = q34) = false -> (decide ((lnZ x.1) = q34) == false) = true /\
  True) /\ (decide ((lnZ x.1) = q34) = false -> (decide ((lnZ x.1) = q34) == false) = true /\ True) /\ (decide ((lnZ x.1) = q34) = false -> (decide ((lnZ x.1) = q34) == false) = true) /\
  ((bif decide ((lnZ x.1) = q34) then true else decide ((16 : Int) < (lnZ x.1))) = true -> ([], q263) = NamesD x.1) /\ ((bif decide ((lnZ x.1) = q34) then true else decide ((16 : Int) < (lnZ
  x.1))) = false -> ∃ (I : Int × Int × Unit -> List (List Int) × List Int × Unit -> Prop), ∃ (μ : Int × Int × Unit -> List (List Int) × List Int × Unit -> Nat), ((lnZ x.1) = (lnZ x.1) /\ x.1
  = x.1 /\ Value.bool false = Value.bool false /\ x.1 = x.1 /\ I (q34, q34, ()) ([], [], ())) /\ ∀ (y : q6) (z : List (List Int) × List Int × Unit), (q101 y) -> (Kd.wf q341 z.1 /\ wyZ z.2.1
  /\ True) -> I y z -> (decide (y.1 < (lnZ x.1)) = true -> (q34 <= y.1 /\ y.1 < (lnZ x.1)) /\ q65 <= q61 /\ List.length (q297 x y).2 <= q149 /\ (∀ (y_1 : q4), (q41 y_1) -> y_1.1 = mayG (q297
  x y).1 (q297 x y).2 -> ((!y_1.1) = true -> ([], q263) = NamesD x.1) /\ ((!y_1.1) = false -> True /\ True /\ ((q296 x y) /\ (∀ (y_2 : q1), (q30 y_2) -> y_2.1 = tagG (q297 x y).1 -> ((q295
  y_2 x y z I μ) /\ True) /\ True) /\ True) /\ (((q296 x y) /\ (∀ (y_2 : q1), (q30 y_2) -> y_2.1 = tagG (q297 x y).1 -> (q295 y_2 x y z I μ) /\ True) /\ True) /\ (((q296 x y) /\ (∀ (y_2 :
  q1), (q30 y_2) -> y_2.1 = tagG (q297 x y).1 -> (q366 y_2 x y z I μ) /\ True) /\ True) /\ True) /\ True) /\ True)) /\ True) /\ (decide (y.1 < (lnZ x.1)) = false -> (isTagD q73 = true /\ lenF
  z.1 <= q257) /\ (∀ (y : q5), (q96 y) -> y.1 = putB (q73, List.flatten z.1) -> (y.1, q34) = NamesD x.1) /\ True))
theorem e17 : t17 = Con.vc c_ext_Names GL (mkEnvO ty [(54, conSem c_host_May), (55, conSem c_ext_tag), (43, conSem c_ext_wrap)] [] [] [0, 2, 3, 4, 6, 14, 15, 16, 17, 18, 23] [1000000,3000006]) {} Tryz.f17.ntmps Tryz.f17.results.toList (bodyOf Tryz.f17) := by kernel_rfl
theorem k17 : t17 := by
  unfold t17
  delta q23 q169 q252 lnZ q34 q263 q6 q101 q341 wyZ q65 q61 q297 q149 q4 q41 q296 q1 q30 q295 q366 q73 q257 q5 q96 q388 wiZ q451 q367 wbZ q332 q437 q430 q416 q423 q422 wrZ q425 q453
  rintro ⟨l, _⟩ hx hp
  have hp : lenG l ≤ 2000000 := hp
  try dsimp +instances only [dft_int, dft_sl, dft_str]
  simp only [true_and, and_true, eq_self_iff_true, implies_true, reduceCtorEq, false_implies, true_implies, decide_eq_true_eq, decide_eq_false_iff_not, beq_self_eq_true, Bool.not_eq_true', ne_eq, Decidable.not_not, List.nil_append, List.length_singleton, List.length_cons, List.length_nil, Nat.zero_add, Nat.add_zero, Nat.mul_one, and_self, beq_iff_eq, Bool.not_true, Bool.not_false, Bool.not_eq_false', Bool.cond_false_right, Bool.and_eq_true, imp_self, Bool.not_eq_true, Bool.cond_true_left, Bool.or_eq_true]
  have hdG : ((Kd.int IntKind.i64).pair Kd.str).dft = gdft := rfl
  try simp only [hdG]
  refine ⟨fun h => ?_, fun h => ?_⟩
  . rw [NamesD, if_pos]
    rcases h with h | h
    . exact .inl (List.length_eq_zero_iff.1 (by omega))
    . exact .inr (.inl (by omega))
  . obtain ⟨q1, q2⟩ := Bool.or_eq_false_iff.1 h
    have q1 := of_decide_eq_false q1
    have q2 := of_decide_eq_false q2
    have hne : l ≠ [] := fun e => q1 (by rw [e]; rfl)
    have hfl := genBs_len l
    refine ⟨fun y z => 0 ≤ y.1 ∧ y.1 ≤ l.length ∧ z.1.length = y.1.toNat ∧ z.1.flatten = (l.take y.1.toNat).flatMap genB ∧ ∀ g ∈ l.take y.1.toNat, mayG g.1 g.2 = true, fun y _ => ((l.length : Int) - y.1).toNat, ⟨Int.le_refl 0, by simp only; omega, rfl, rfl, by simp⟩, ?_⟩
    rintro ⟨i, r, _⟩ ⟨zs, z2, _⟩ _ _ ⟨h0, h1, h2, h3, h4⟩
    simp only at h0 h1 h2 h3 h4 ⊢
    refine ⟨fun hi => ?_, fun hi => ?_⟩
    . have hmem := gd_mem l gdft i.toNat (by omega)
      have hgl := sum_mem hmem
      refine ⟨⟨h0, hi⟩, by decide, by omega, ?_⟩
      rintro ⟨y, _⟩ _ e
      simp only at e ⊢
      refine ⟨fun hy => ?_, fun hy => ?_⟩
      . have ha : (l.all fun g => mayG g.1 g.2) = false := by
          cases ha : l.all fun g => mayG g.1 g.2 with
          | false => rfl
          | true =>
            have := List.all_eq_true.1 ha _ hmem
            rw [← e, hy] at this; cases this
        rw [NamesD, if_pos (.inr (.inr ha))]
      . have hmay : mayG (l.getD i.toNat gdft).1 (l.getD i.toNat gdft).2 = true := e.symm.trans hy
        have hk := may_kind' hmay
        have hkr : 0 ≤ (l.getD i.toNat gdft).1 ∧ (l.getD i.toNat gdft).1 ≤ 1000 := by
          rcases hk with h | h | h | h <;> rw [h] <;> decide
        refine ⟨hkr, ?_⟩
        rintro ⟨t, _⟩ _ e2
        simp only at e2 ⊢
        simp only [flat_one]
        refine ⟨⟨by rw [e2]; exact (tagG_kind hk).1, by rw [lenF, flat_one]; omega⟩, ?_⟩
        rintro ⟨d, _⟩ _ e4
        simp only at e4 ⊢
        rw [wrapM (i + 1) (by omega) (by omega)]
        refine ⟨by decide, by omega, by omega, ⟨by omega, by omega, by rw [List.length_append]; simp only [List.length_cons, List.length_nil]; omega, ?_, ?_⟩, by omega⟩
        . rw [show (i + 1).toNat = i.toNat + 1 by omega, flat_take genB l gdft i.toNat (by omega), List.flatten_append, h3, flat_one, e4, e2]
          rfl
        . rw [show (i + 1).toNat = i.toNat + 1 by omega]
          exact all_take gdft (by omega) h4 hmay
    . rw [take_all (by omega)] at h3 h4
      have hall : (l.all fun g => mayG g.1 g.2) = true := List.all_eq_true.2 h4
      refine ⟨⟨by decide, by rw [lenF, h3]; omega⟩, ?_⟩
      rintro ⟨d, _⟩ _ e4
      simp only at e4 ⊢
      rw [NamesD, if_neg, e4, h3]
      rintro (h | h | h)
      . exact hne h
      . omega
      . rw [hall] at h; cases h
theorem h17 : c_ext_Names.ok Tryz.prog GL 17 := conO_ok (H := {}) (mkEnvO_ok (gl := GL) (l := [(54, conSem c_host_May), (55, conSem c_ext_tag), (43, conSem c_ext_wrap)]) (q := []) (d := []) _ [1000000,3000006] tyOk (by kernel_rfl) ⟨h54.call, h55.call, h43.call, trivial⟩ trivial trivial) (by kernel_rfl) (by kernel_rfl) (Eq.mp e17 k17)
noncomputable def i111 : DefSem := vcDef (mkEnv ty [] [] [] [0, 1, 2, 4, 5, 8, 15]) {} Tryz.f111.ntmps Tryz.f111.results.toList (bodyOf Tryz.f111)
theorem i111_ok : DefOk Tryz.prog GL 111 i111 := def_ok {} (mkEnv_ok (gl := GL) (l := []) (q := []) (d := []) _ tyOk (by kernel_rfl) trivial trivial trivial) (by kernel_rfl) (by kernel_rfl)
noncomputable def i62 : CallSem := vcFn (mkEnvO ty [(50, conSem c_ext_inside), (42, conSem c_ext_must), (63, conSem c_ext_general), (54, conSem c_host_May)] [] [] [0, 1, 2, 4, 5, 6, 8, 9, 10, 11] [1000000]) {} Tryz.f62.ntmps Tryz.f62.results.toList (bodyOf Tryz.f62)
theorem i62_ok : CallOk Tryz.prog GL 62 i62 := inlO_ok {} (mkEnvO_ok (gl := GL) (l := [(50, conSem c_ext_inside), (42, conSem c_ext_must), (63, conSem c_ext_general), (54, conSem c_host_May)]) (q := []) (d := []) _ [1000000] tyOk (by kernel_rfl) ⟨h50.call, h42.call, h63.call, h54.call, trivial⟩ trivial trivial) (by kernel_rfl) (by kernel_rfl)
noncomputable def i61 : CallSem := vcFn (mkEnv ty [(62, i62)] [] [(111, i111)] [0, 2, 3]) {} Tryz.f61.ntmps Tryz.f61.results.toList (bodyOf Tryz.f61)
theorem i61_ok : CallOk Tryz.prog GL 61 i61 := inl_ok {} (mkEnv_ok (gl := GL) (l := [(62, i62)]) (q := []) (d := [(111, i111)]) _ tyOk (by kernel_rfl) ⟨i62_ok, trivial⟩ trivial ⟨i111_ok, trivial⟩) (by kernel_rfl) (by kernel_rfl)
def t21 : Prop :=
  ∀ (x : q5), (q96 x) -> lenB x.1 <= q252 -> List.length [SV.dat q275 x.1] <= q61 /\ q36 <= q61 /\ q36 <= q61 /\ lenB x.1 <= q252 /\ (∀ (y : q23), (q272 y) -> insD x.1 q73 = (y.1, true) -> ∃
  (I : Int × Unit -> q126 × Unit × (Int × Unit) × List q127 × List q127 × List q127 × Unit -> Prop), ∃ (μ : Int × Unit -> q126 × Unit × (Int × Unit) × List q127 × List q127 × List q127 × Unit
  -> Nat), ((lnZ y.1) = (lnZ y.1) /\ Value.slice none q63 q63 = Value.slice none q63 q63 /\ q34 = q34 /\ Value.slice none q63 q63 = Value.slice none q63 q63 /\ x.1 = x.1 /\ I (q34, ()) ((x.1,
  ()), (), (q34, ()), y.1, [], [], ())) /\ ∀ (y_1 : q1) (z : q126 × Unit × (Int × Unit) × List q127 × List q127 × List q127 × Unit), (q30 y_1) -> (wyZ z.1.1 /\ True) /\ True /\ (wiZ z.2.2.1.1
  /\ True) /\ (Kd.wf q125 z.2.2.2.1 /\ Kd.wf q169 z.2.2.2.2.1 /\ Kd.wf q169 z.2.2.2.2.2.1 /\ True) -> I y_1 z -> (decide (y_1.1 < (lnZ y.1)) = true -> (q34 <= y_1.1 /\ y_1.1 < (lnZ
  z.2.2.2.1)) /\ q65 <= q61 /\ isTagD (q298 z y_1).1 = true /\ (∀ (y_2 : Int × List Int × Unit), (wiZ y_2.1 /\ wsZ y_2.2.1 /\ True) -> okE ((q298 z y_1).1, (q298 z y_1).2) = true /\ (y_2.1,
  y_2.2.1) = genE ((q298 z y_1).1, (q298 z y_1).2) -> List.length y_2.2.1 <= q149 /\ (∀ (y_3 : q4), (q41 y_3) -> y_3.1 = mayG y_2.1 y_2.2.1 -> True /\ (∀ (y_4 : Unit), True -> y_3.1 = true ->
  q63 < q65 /\ (List.length z.2.2.2.2.1 + List.length [(y_2.1, y_2.2.1)]) * (24 : Nat) <= q94 /\ List.length z.2.2.2.2.1 + List.length [(y_2.1, y_2.2.1)] <= q93 /\ (lnZ y.1) = (lnZ y.1) /\
  Value.slice none q63 q63 = Value.slice none q63 q63 /\ q34 = q34 /\ Value.slice none q63 q63 = Value.slice none q63 q63 /\ x.1 = x.1 /\ I (wrZ (q138 y_1), ()) ((z.1.1, ()), (), (z.2.2.1.1,
  ()), z.2.2.2.1, z.2.2.2.2.1 ++ [(y_2.1, y_2.2.1)], z.2.2.2.2.2.1, ()) /\ μ (wrZ (q138 y_1), ()) ((z.1.1, ()), (), (z.2.2.1.1, ()), z.2.2.2.1, z.2.2.2.2.1 ++ [(y_2.1, y_2.2.1)],
  z.2.2.2.2.2.1, ()) < μ y_1 z) /\ ∀ (y : Unit), Kd.wf Kd.unit y -> y_3.1 = false -> q63 <= q61 /\ ([], q263) = ToNamesD x.1) /\ True) /\ ∀ (y : Unit), Kd.wf Kd.unit y -> okE ((q298 z y_1).1,
  (q298 z y_1).2) = false -> q63 <= q61 /\ ([], q263) = ToNamesD x.1) /\ (decide (y_1.1 < (lnZ y.1)) = false -> (decide (q34 < (lnZ z.2.2.2.2.1)) = true -> True) /\ (decide (q34 < (lnZ
  z.2.2.2.2.1)) = true -> (decide (q34 < (lnZ z.2.2.2.2.1)) == true) = true /\ True) /\ (decide (q34 < (lnZ z.2.2.2.2.1)) = true -> (decide (q34 < (lnZ z.2.2.2.2.1)) == true) = true /\ True)
  /\ (decide (q34 < (lnZ z.2.2.2.2.1)) = true -> (decide (q34 < (lnZ z.2.2.2.2.1)) == true) = true) /\ True /\ (∀ (y : Unit), True -> (bif decide (q34 < (lnZ z.2.2.2.2.1)) then decide ((lnZ
  z.2.2.2.2.1) <= (16 : Int)) else false) = true -> (z.2.2.2.2.1, q34) = ToNamesD x.1) /\ ∀ (y : Unit), Kd.wf Kd.unit y -> (bif decide (q34 < (lnZ z.2.2.2.2.1)) then decide ((lnZ z.2.2.2.2.1)
  <= (16 : Int)) else false) = false -> q63 <= q61 /\ ([], q263) = ToNamesD x.1)) /\ ∀ (y : Unit), Kd.wf Kd.unit y -> (insD x.1 q73).2 = false -> q63 <= q61 /\ ([], q263) = ToNamesD x.1
theorem e21 : t21 = Con.vc c_ext_ToNames GL (mkEnv ty [(61, i61)] [] [] [0, 1, 2, 3]) {} Tryz.f21.ntmps Tryz.f21.results.toList (bodyOf Tryz.f21) := by kernel_rfl
theorem k21 : t21 := by
  unfold t21
  delta q5 q96 q252 q275 q61 q36 q23 q272 q73 q126 q127 lnZ q63 q34 q1 q30 wyZ wiZ q125 q169 q65 q298 wsZ q149 q4 q41 q94 q93 wrZ q138 q263 q371 q387 q365 q388 q330 q353 wbZ q334 q452 q425 q451
  rintro ⟨b, _⟩ hx hp
  have hp : b.length ≤ 2000000 := hp
  have hb : Bys b := sl_bys hx.1
  try dsimp +instances only [dft_int, dft_sl, dft_str]
  simp only [true_and, and_true, eq_self_iff_true, implies_true, reduceCtorEq, false_implies, true_implies, decide_eq_true_eq, decide_eq_false_iff_not, beq_self_eq_true, Bool.not_eq_true', ne_eq, Decidable.not_not, List.nil_append, List.length_singleton, List.length_cons, List.length_nil, Nat.zero_add, Nat.add_zero, Nat.mul_one, and_self, beq_iff_eq, Bool.not_true, Bool.not_false, Bool.not_eq_false', Bool.cond_false_right, Bool.and_eq_true, imp_self, Bool.not_eq_true, Bool.cond_true_left, Bool.or_eq_true]
  have hdE : ((Kd.int IntKind.i64).pair (Kd.int IntKind.u8).sl).dft = edft := rfl
  try simp only [hdE]
  refine ⟨by decide, by decide, by decide, hp, ?_, fun _ _ h => ⟨by decide, ?_⟩⟩
  . rintro ⟨L, _⟩ _ e
    simp only at e ⊢
    have hLl : L.length ≤ 2000000 ∧ ∀ x ∈ L, x.2.length ≤ 2000000 := by
      have h1 := insD_len b 48
      rw [e] at h1
      simp only at h1
      exact ⟨by omega, fun x hx => by have := h1.2 x hx; omega⟩
    have hof := ins_of (b := b) (t := 48) hb (by rw [e])
    rw [e] at hof
    have hD : ToNamesD b = if L.all okG = true ∧ L ≠ [] ∧ L.length ≤ 16 then (L.map genE, 0) else ([], 150) := by
      rw [ToNamesD, e]; simp only [true_and]
    have hbad : ∀ {i : Nat}, i < L.length → okG (L.getD i edft) = false → ToNamesD b = ([], 150) := fun hi h => by
      rw [hD, if_neg]
      rintro ⟨h1, _⟩
      rw [List.all_eq_true.1 h1 _ (gd_mem L edft _ hi)] at h
      cases h
    refine ⟨fun y z => 0 ≤ y.1 ∧ y.1 ≤ L.length ∧ z.2.2.2.1 = L ∧ z.2.2.2.2.1 = (L.take y.1.toNat).map genE ∧ ∀ x ∈ L.take y.1.toNat, okG x = true, fun y _ => ((L.length : Int) - y.1).toNat, ⟨Int.le_refl 0, by simp only; omega, rfl, by simp, by simp⟩, ?_⟩
    rintro ⟨i, _⟩ ⟨⟨z1, _⟩, z2, ⟨z3, _⟩, row, acc, oth, _⟩ _ _ ⟨h0, h1, h2, h3, h4⟩
    simp only at h0 h1 h2 h3 h4 ⊢
    simp only [h2]
    have hal : acc.length = i.toNat := by rw [h3, List.length_map, List.length_take]; omega
    refine ⟨fun hi => ?_, fun hi => ?_⟩
    . have hmem := gd_mem L edft i.toNat (by omega)
      have hml := hLl.2 _ hmem
      refine ⟨⟨h0, hi⟩, by decide, (hof.2.1 _ hmem).1, ?_, fun _ _ h => ⟨by decide, ?_⟩⟩
      . rintro ⟨k, s, _⟩ _ ⟨hok, e2⟩
        simp only at e2 ⊢
        have hok : okE (L.getD i.toNat edft) = true := hok
        have e2 : (k, s) = genE (L.getD i.toNat edft) := e2
        obtain ⟨rfl, rfl⟩ := Prod.mk.inj e2
        refine ⟨by omega, ?_⟩
        rintro ⟨y, _⟩ _ e3
        simp only at e3 ⊢
        refine ⟨fun _ hy => ?_, fun _ _ hy => ⟨by decide, ?_⟩⟩
        . rw [wrapM (i + 1) (by omega) (by omega)]
          refine ⟨by decide, by omega, by omega, ⟨by omega, by omega, trivial, ?_, ?_⟩, by omega⟩
          . rw [show (i + 1).toNat = i.toNat + 1 by omega, map_take _ L edft i.toNat (by omega), h3]
            rfl
          . rw [show (i + 1).toNat = i.toNat + 1 by omega]
            refine all_take edft (by omega) h4 ?_
            rw [okG, hok, Bool.true_and]
            exact e3.symm.trans hy
        . refine (hbad (i := i.toNat) (by omega) ?_).symm
          rw [okG, hok, Bool.true_and]
          exact e3.symm.trans hy
      . refine (hbad (i := i.toNat) (by omega) ?_).symm
        have h : okE (L.getD i.toNat edft) = false := h
        rw [okG, h, Bool.false_and]
    . rw [take_all (by omega)] at h3 h4
      have hall : L.all okG = true := List.all_eq_true.2 h4
      have hlen : L.length = acc.length := by rw [h3, List.length_map]
      have hne : L ≠ [] ↔ 0 < (acc.length : Int) := by
        rw [← hlen]
        constructor
        . intro h; have := List.length_pos_iff.2 h; omega
        . intro h hc; rw [hc] at h; exact absurd h (by decide)
      rw [← h3, hall, hlen] at hD
      refine ⟨fun _ h => ?_, fun _ _ h => ⟨by decide, ?_⟩⟩
      . rw [hD, if_pos ⟨rfl, hne.2 h.1, by omega⟩]
      . rw [hD, if_neg]
        rintro ⟨_, hc, hc2⟩
        rw [decide_eq_true (hne.1 hc), decide_eq_true (show (acc.length : Int) ≤ 16 by omega)] at h
        cases h
  . rw [ToNamesD, if_neg]
    rintro ⟨h1, _⟩
    rw [h] at h1; cases h1
theorem h21 : c_ext_ToNames.ok Tryz.prog GL 21 := con_ok (H := {}) (mkEnv_ok (gl := GL) (l := [(61, i61)]) (q := []) (d := []) _ tyOk (by kernel_rfl) ⟨i61_ok, trivial⟩ trivial trivial) (by kernel_rfl) (by kernel_rfl) (Eq.mp e21 k21)
def t41 : Prop :=
  ∀ (x : Int × List q127 × Unit), (wiZ x.1 /\ Kd.wf q169 x.2.1 /\ True) -> lenG x.2.1 <= q252 /\ isTagD x.1 = true -> True /\ (∀ (y : Unit), True -> decide ((lnZ x.2.1) <= (16 : Int)) = true
  -> ∃ (I : q24), ∃ (μ : q25), ((lnZ x.2.1) = (lnZ x.2.1) /\ x.2.1 = x.2.1 /\ Value.slice none q63 q63 = Value.slice none q63 q63 /\ x.1 = x.1 /\ x.2.1 = x.2.1 /\ I (q34, ()) ([], ())) /\ ∀
  (y : q1) (z : q11), (q30 y) -> (q100 z) -> I y z -> (decide (y.1 < (lnZ x.2.1)) = true -> (q34 <= y.1 /\ y.1 < (lnZ x.2.1)) /\ q65 <= q61 /\ List.length (q301 x y).2 <= q149 /\ (∀ (y_1 :
  q4), (q41 y_1) -> y_1.1 = mayT (q301 x y).1 (q301 x y).2 -> True /\ (∀ (y_2 : Unit), True -> y_1.1 = true -> True /\ True /\ ((q300 x y) /\ (∀ (y_3 : q1), (q30 y_3) -> y_3.1 = tagG (q301 x
  y).1 -> ((q299 y_3 x y z I μ) /\ True) /\ True) /\ True) /\ (((q300 x y) /\ (∀ (y_3 : q1), (q30 y_3) -> y_3.1 = tagG (q301 x y).1 -> (q299 y_3 x y z I μ) /\ True) /\ True) /\ (((q300 x y)
  /\ (∀ (y_3 : q1), (q30 y_3) -> y_3.1 = tagG (q301 x y).1 -> ((isTagD y_3.1 = true /\ lenF [(List.getD x.2.1 (q330 y) q367).2] <= q364) /\ (∀ (y_4 : q5), (wyZ y_4.1 /\ True) -> y_4.1 = putB
  (y_3.1, List.flatten [(List.getD x.2.1 (q330 y) q367).2]) -> (((isTagD (48 : Int) = true /\ lenF [y_4.1] <= q364) /\ (∀ (y_5 : q5), (wyZ y_5.1 /\ True) -> y_5.1 = putB ((48 : Int),
  List.flatten [y_4.1]) -> ((q347 < q416 /\ (List.length z.1 + List.length [y_5.1]) * (24 : Nat) <= q423 /\ List.length z.1 + List.length [y_5.1] <= q422 /\ (lnZ x.2.1) = (lnZ x.2.1) /\ x.2.1
  = x.2.1 /\ Value.slice none q347 q347 = Value.slice none q347 q347 /\ x.1 = x.1 /\ x.2.1 = x.2.1 /\ I (wrZ (y.1 + (1 : Int)), ()) (z.1 ++ [y_5.1], ()) /\ μ (wrZ (y.1 + (1 : Int)), ()) (z.1
  ++ [y_5.1], ()) < μ y z) /\ True) /\ True) /\ True) /\ True) /\ True) /\ True) /\ True) /\ True) /\ True) /\ True) /\ True) /\ ∀ (y : Unit), Kd.wf Kd.unit y -> y_1.1 = false -> okTr x.2.1 =
  false) /\ True) /\ (decide (y.1 < (lnZ x.2.1)) = false -> (decide ((lnZ z.1) = q34) = true -> okTr x.2.1 = true /\ [] = List.flatMap putB (subs x.1 x.2.1)) /\ (decide ((lnZ z.1) = q34) =
  false -> (isTagD x.1 = true /\ lenF z.1 <= q257) /\ (∀ (y : q5), (q96 y) -> y.1 = putB (x.1, List.flatten z.1) -> okTr x.2.1 = true /\ y.1 = List.flatMap putB (subs x.1 x.2.1)) /\ True)))
  /\ ∀ (y : Unit), Kd.wf Kd.unit y -> decide ((lnZ x.2.1) <= (16 : Int)) = false -> okTr x.2.1 = false
theorem e41 : t41 = Con.vc c_ext_trees GL (mkEnvO ty [(94, conSem c_within_May), (42, conSem c_ext_must), (55, conSem c_ext_tag), (43, conSem c_ext_wrap)] [] [] [0, 1, 4, 5, 7, 12, 13, 14, 15, 37] [1000000,3000007]) {} Tryz.f41.ntmps Tryz.f41.results.toList (bodyOf Tryz.f41) := by kernel_rfl
theorem k41 : t41 := by
  unfold t41
  delta q127 wiZ q169 q252 lnZ q24 q25 q63 q34 q1 q11 q30 q100 q65 q61 q301 q149 q4 q41 q300 q299 q330 q367 q364 q5 wyZ q347 q416 q423 q422 wrZ q257 q96 q388 q341 wbZ q332 q409 q453 q425 q451
  rintro ⟨t, l, _⟩ hx hp
  have hp : lenG l ≤ 2000000 ∧ isTagD t = true := hp
  obtain ⟨hp, htag⟩ := hp
  try dsimp +instances only [dft_int, dft_sl, dft_str]
  simp only [true_and, and_true, eq_self_iff_true, implies_true, reduceCtorEq, false_implies, true_implies, decide_eq_true_eq, decide_eq_false_iff_not, beq_self_eq_true, Bool.not_eq_true', ne_eq, Decidable.not_not, List.nil_append, List.length_singleton, List.length_cons, List.length_nil, Nat.zero_add, Nat.add_zero, Nat.mul_one, and_self, beq_iff_eq, Bool.not_true, Bool.not_false, Bool.not_eq_false', Bool.cond_false_right, Bool.and_eq_true, imp_self, Bool.not_eq_true, Bool.cond_true_left, Bool.or_eq_true]
  have hdG : ((Kd.int IntKind.i64).pair Kd.str).dft = gdft := rfl
  try simp only [hdG]
  refine ⟨fun _ h16 => ?_, fun _ _ h => ?_⟩
  . have hfl := elTs_len l
    have hgl0 := genBs_len l
    refine ⟨fun y z => 0 ≤ y.1 ∧ y.1 ≤ l.length ∧ z.1.length = y.1.toNat ∧ z.1.flatten = (l.take y.1.toNat).flatMap (fun t => putB (elT t)) ∧ ∀ g ∈ l.take y.1.toNat, mayTr g = true, fun y _ => ((l.length : Int) - y.1).toNat, ⟨Int.le_refl 0, by simp only; omega, rfl, rfl, by simp⟩, ?_⟩
    rintro ⟨i, _⟩ ⟨zs, _⟩ _ _ ⟨h0, h1, h2, h3, h4⟩
    simp only at h0 h1 h2 h3 h4 ⊢
    refine ⟨fun hi => ?_, fun hi => ?_⟩
    . have hmem := gd_mem l gdft i.toNat (by omega)
      have hgl := sum_mem hmem
      refine ⟨⟨h0, hi⟩, by decide, by omega, ?_⟩
      rintro ⟨y, _⟩ _ e
      simp only at e ⊢
      refine ⟨fun _ hy => ?_, fun _ _ hy => ?_⟩
      . have hmay : mayTr (l.getD i.toNat gdft) = true := e.symm.trans hy
        have hk := mayTr_kind hmay
        have hkr : 0 ≤ (l.getD i.toNat gdft).1 ∧ (l.getD i.toNat gdft).1 ≤ 1000 := by
          rcases hk with h | h | h | h <;> rw [h] <;> decide
        refine ⟨hkr, ?_⟩
        rintro ⟨u, _⟩ _ e2
        simp only at e2 ⊢
        simp only [flat_one]
        refine ⟨⟨by rw [e2]; exact (tagG_kind hk).1, by rw [lenF, flat_one]; omega⟩, ?_⟩
        rintro ⟨d, _⟩ _ e4
        simp only at e4 ⊢
        have e5 : d = genB (l.getD i.toNat gdft) := by rw [e4, e2]; rfl
        have hd5 := genB_len (l.getD i.toNat gdft)
        rw [← e5] at hd5
        refine ⟨⟨by decide, by rw [lenF, flat_one]; omega⟩, ?_⟩
        rintro ⟨d2, _⟩ _ e6
        simp only at e6 ⊢
        rw [wrapM (i + 1) (by omega) (by omega)]
        refine ⟨by decide, by omega, by omega, ⟨by omega, by omega, by rw [List.length_append]; simp only [List.length_cons, List.length_nil]; omega, ?_, ?_⟩, by omega⟩
        . rw [show (i + 1).toNat = i.toNat + 1 by omega, flat_take (fun t => putB (elT t)) l gdft i.toNat (by omega), List.flatten_append, h3, flat_one, e6, e5]
          rfl
        . rw [show (i + 1).toNat = i.toNat + 1 by omega]
          exact all_take gdft (by omega) h4 hmay
      . rw [okTr]
        cases ha : l.all mayTr with
        | false => rw [Bool.and_false]
        | true =>
          have := List.all_eq_true.1 ha _ hmem
          have hf : mayTr (l.getD i.toNat gdft) = false := e.symm.trans hy
          rw [hf] at this; cases this
    . rw [take_all (by omega)] at h3 h4
      have hok : okTr l = true := by rw [okTr, decide_eq_true (show l.length ≤ 16 by omega), Bool.true_and]; exact List.all_eq_true.2 h4
      have hlen : l.length = i.toNat := by omega
      refine ⟨fun h => ⟨hok, ?_⟩, fun h => ⟨⟨htag, by rw [lenF, h3]; omega⟩, ?_⟩⟩
      . have : l = [] := List.length_eq_zero_iff.1 (by omega)
        rw [this]; rfl
      . rintro ⟨d, _⟩ _ e
        simp only at e ⊢
        refine ⟨hok, ?_⟩
        have hne : l ≠ [] := fun hc => h (by rw [hc] at hlen; simp at hlen; omega)
        rw [e, h3, subs, if_neg hne]
        simp only [List.flatMap_cons, List.flatMap_nil, List.append_nil]
  . rw [okTr, decide_eq_false (show ¬ l.length ≤ 16 by omega), Bool.false_and]
theorem h41 : c_ext_trees.ok Tryz.prog GL 41 := conO_ok (H := {}) (mkEnvO_ok (gl := GL) (l := [(94, conSem c_within_May), (42, conSem c_ext_must), (55, conSem c_ext_tag), (43, conSem c_ext_wrap)]) (q := []) (d := []) _ [1000000,3000007] tyOk (by kernel_rfl) ⟨h94.call, h42.call, h55.call, h43.call, trivial⟩ trivial trivial) (by kernel_rfl) (by kernel_rfl) (Eq.mp e41 k41)
noncomputable def i93 : DefSem := vcDef (mkEnv ty [] [] [] [0, 1, 2, 4, 5, 8, 15]) {} Tryz.f93.ntmps Tryz.f93.results.toList (bodyOf Tryz.f93)
theorem i93_ok : DefOk Tryz.prog GL 93 i93 := def_ok {} (mkEnv_ok (gl := GL) (l := []) (q := []) (d := []) _ tyOk (by kernel_rfl) trivial trivial trivial) (by kernel_rfl) (by kernel_rfl)
noncomputable def i40 : CallSem := vcFn (mkEnvO ty [(41, conSem c_ext_trees), (42, conSem c_ext_must), (43, conSem c_ext_wrap)] [] [] [0, 1, 2, 3] [1000000]) {} Tryz.f40.ntmps Tryz.f40.results.toList (bodyOf Tryz.f40)
theorem i40_ok : CallOk Tryz.prog GL 40 i40 := inlO_ok {} (mkEnvO_ok (gl := GL) (l := [(41, conSem c_ext_trees), (42, conSem c_ext_must), (43, conSem c_ext_wrap)]) (q := []) (d := []) _ [1000000] tyOk (by kernel_rfl) ⟨h41.call, h42.call, h43.call, trivial⟩ trivial trivial) (by kernel_rfl) (by kernel_rfl)
noncomputable def i39 : CallSem := vcFn (mkEnv ty [(40, i40)] [] [(93, i93)] [0, 2, 3]) {} Tryz.f39.ntmps Tryz.f39.results.toList (bodyOf Tryz.f39)
theorem i39_ok : CallOk Tryz.prog GL 39 i39 := inl_ok {} (mkEnv_ok (gl := GL) (l := [(40, i40)]) (q := []) (d := [(93, i93)]) _ tyOk (by kernel_rfl) ⟨i40_ok, trivial⟩ trivial ⟨i93_ok, trivial⟩) (by kernel_rfl) (by kernel_rfl)
def t7 : Prop :=
  ∀ (x : (List q127 × List q127) × Unit), (Kd.wf q303 x.1 /\ True) -> lenG x.1.1 <= q252 /\ lenG x.1.2 <= q252 -> List.length [SV.dat q169 x.1.1, SV.dat q169 x.1.2] <= q61 /\ q36 <= q61 /\
  q36 <= q61 /\ (((lenG x.1.1 <= q252 /\ isTagD (160 : Int) = true) /\ (∀ (y : q5), (q96 y) -> okTr x.1.1 = true /\ y.1 = List.flatMap putB (subs (160 : Int) x.1.1) -> (((lenG x.1.2 <= q252
  /\ isTagD (161 : Int) = true) /\ (∀ (y_1 : q5), (q96 y_1) -> okTr x.1.2 = true /\ y_1.1 = List.flatMap putB (subs (161 : Int) x.1.2) -> True /\ (∀ (y_2 : Unit), True -> decide (q332 < wrZ
  ((lnZ y.1) + (lnZ y_1.1))) = true -> (isTagD (48 : Int) = true /\ lenF [y.1, y_1.1] <= q364) /\ (∀ (y_3 : q5), (q96 y_3) -> y_3.1 = putB (q73, List.flatten [y.1, y_1.1]) -> (y_3.1, q34) =
  TreesD x.1) /\ True) /\ ∀ (y_2 : Unit), Kd.wf Kd.unit y_2 -> decide (q332 < wrZ ((lnZ y.1) + (lnZ y_1.1))) = false -> q63 <= q61 /\ ([], q263) = TreesD x.1) /\ ∀ (y : Unit), Kd.wf Kd.unit y
  -> okTr x.1.2 = false -> q63 <= q61 /\ ([], q263) = TreesD x.1) /\ True) /\ True) /\ ∀ (y : Unit), Kd.wf Kd.unit y -> okTr x.1.1 = false -> q63 <= q61 /\ ([], q263) = TreesD x.1) /\ (q302
  x) /\ True) /\ ((q302 x) /\ True) /\ True
theorem e7 : t7 = Con.vc c_ext_Trees GL (mkEnv ty [(39, i39)] [] [] [0, 1, 2, 3]) {} Tryz.f7.ntmps Tryz.f7.results.toList (bodyOf Tryz.f7) := by kernel_rfl
theorem k7 : t7 := by
  unfold t7
  delta q127 q303 q252 q169 q61 q36 q5 q96 q332 wrZ lnZ q364 q73 q34 q63 q263 q302 q388 wyZ q347 q425
  rintro ⟨⟨p, x⟩, _⟩ hx hp
  have hp : lenG p ≤ 2000000 ∧ lenG x ≤ 2000000 := hp
  try dsimp +instances only [dft_int, dft_sl, dft_str]
  simp only [true_and, and_true, eq_self_iff_true, implies_true, reduceCtorEq, false_implies, true_implies, decide_eq_true_eq, decide_eq_false_iff_not, beq_self_eq_true, Bool.not_eq_true', ne_eq, Decidable.not_not, List.nil_append, List.length_singleton, List.length_cons, List.length_nil, Nat.zero_add, Nat.add_zero, Nat.mul_one, and_self, beq_iff_eq, Bool.not_true, Bool.not_false, Bool.not_eq_false', Bool.cond_false_right, Bool.and_eq_true, imp_self, Bool.not_eq_true, Bool.cond_true_left, Bool.or_eq_true]
  have sub_len : ∀ {t : Int} {l : List GenT}, okTr l = true → lenG l ≤ 2000000 → ((subs t l).flatMap putB).length ≤ 2100000 := fun {t l} h hl => by
    have h16 := of_decide_eq_true (Bool.and_eq_true_iff.1 h).1
    have h1 := elTs_len l
    unfold subs
    split
    . simp
    . rw [List.flatMap_cons, List.flatMap_nil, List.append_nil, put_len]
      have := (lng_len (n := ((l.flatMap fun t => putB (elT t)).length : Int))).2
      simp only
      omega
  have sub_pos : ∀ {t : Int} {l : List GenT}, l ≠ [] → 0 < ((subs t l).flatMap putB).length := fun {t l} h => by
    unfold subs
    rw [if_neg h, List.flatMap_cons, List.length_append, put_len]; omega
  have sub_nil : ∀ {t : Int}, ((subs t []).flatMap putB).length = 0 := fun {t} => rfl
  have bad : okTr p = false ∨ okTr x = false ∨ (p = [] ∧ x = []) → TreesD (p, x) = ([], 150) := fun h => by
    rw [TreesD, if_pos]
    cases hb : badTr (p, x) with
    | true => rfl
    | false =>
      obtain ⟨h1, h2, h3, h4, h5⟩ := badTr_no (t := (p, x)) (by rw [hb]; decide)
      have o1 : okTr p = true := by rw [okTr, decide_eq_true h1, Bool.true_and]; exact List.all_eq_true.2 h3
      have o2 : okTr x = true := by rw [okTr, decide_eq_true h2, Bool.true_and]; exact List.all_eq_true.2 h4
      rcases h with h | h | h
      . rw [o1] at h; cases h
      . rw [o2] at h; cases h
      . exact absurd h h5
  refine ⟨by decide, by decide, by decide, ⟨hp.1, by decide⟩, ?_, fun _ _ h => ⟨by decide, (bad (.inl h)).symm⟩⟩
  rintro ⟨a, _⟩ _ ⟨ho1, e1⟩
  simp only at e1 ⊢
  have l1 := sub_len (t := 160) ho1 hp.1
  rw [← e1] at l1
  refine ⟨⟨hp.2, by decide⟩, ?_, fun _ _ h => ⟨by decide, (bad (.inr (.inl h))).symm⟩⟩
  rintro ⟨c, _⟩ _ ⟨ho2, e2⟩
  simp only at e2 ⊢
  have l2 := sub_len (t := 161) ho2 hp.2
  rw [← e2] at l2
  have h16p := of_decide_eq_true (Bool.and_eq_true_iff.1 ho1).1
  have h16x := of_decide_eq_true (Bool.and_eq_true_iff.1 ho2).1
  have hap := List.all_eq_true.1 (Bool.and_eq_true_iff.1 ho1).2
  have hax := List.all_eq_true.1 (Bool.and_eq_true_iff.1 ho2).2
  rw [wrapM _ (by omega) (by omega)]
  have hf2 : [a, c].flatten = a ++ c := by simp
  refine ⟨fun _ h => ⟨⟨by decide, by rw [lenF, hf2, List.length_append]; omega⟩, ?_⟩, fun _ _ h => ⟨by decide, ?_⟩⟩
  . rintro ⟨d, _⟩ _ e
    simp only at e ⊢
    have hne : ¬ (p = [] ∧ x = []) := by
      rintro ⟨rfl, rfl⟩
      rw [e1, e2] at h
      exact absurd h (by decide)
    rw [TreesD, if_neg (by rw [no_badTr (t := (p, x)) h16p h16x hap hax hne]; decide), treesB, e, hf2, e1, e2, List.flatMap_append]
  . refine (bad (.inr (.inr ?_))).symm
    constructor
    . by_cases hc : p = []
      . exact hc
      . have := sub_pos (t := 160) hc
        rw [← e1] at this
        exact absurd (show (0 : Int) < a.length + c.length by omega) h
    . by_cases hc : x = []
      . exact hc
      . have := sub_pos (t := 161) hc
        rw [← e2] at this
        exact absurd (show (0 : Int) < a.length + c.length by omega) h
theorem h7 : c_ext_Trees.ok Tryz.prog GL 7 := con_ok (H := {}) (mkEnv_ok (gl := GL) (l := [(39, i39)]) (q := []) (d := []) _ tyOk (by kernel_rfl) ⟨i39_ok, trivial⟩ trivial trivial) (by kernel_rfl) (by kernel_rfl) (Eq.mp e7 k7)
def t49 : Prop :=
  ∀ (x : q20), (q269 x) -> lenEs x.1 <= q252 -> True /\ (∀ (y : q22), (q271 y) -> (y.1, y.2.1, y.2.2.1) = takeE x.1 x.2.1 -> ((!y.2.1) = true -> rdS x.1 x.2.1 = ([], y.2.2.1, true)) /\
  ((!y.2.1) = false -> lenB y.1 <= q95 /\ (∀ (y_1 : q18), (q157 y_1) -> (y_1.1, y_1.2.1, y_1.2.2.1) = allD y.1 -> (decide (q267 y_1) = true -> True) /\ (decide (q267 y_1) = true -> (decide
  (q267 y_1) == true) = true /\ True) /\ (decide (q267 y_1) = true -> (decide (q267 y_1) == true) = true /\ True) /\ (decide (q267 y_1) = true -> (decide (q267 y_1) == true) = true) /\ ((q307
  y_1) = true -> True) /\ (q304 y_1) /\ (q304 y_1) /\ ((q307 y_1) = true -> ((q368 y_1) == true) = true) /\ True /\ (∀ (y_2 : Unit), True -> (q305 y_1) = true -> ∃ (I : Int × Unit -> List
  q127 × List q127 × Unit -> Prop), ∃ (μ : Int × Unit -> List q127 × List q127 × Unit -> Nat), ((lnZ y_1.1) = (lnZ y_1.1) /\ y_1.2.2.1 = y_1.2.2.1 /\ Value.bool false = Value.bool false /\
  y.2.2.1 = y.2.2.1 /\ y.2.1 = y.2.1 /\ y.1 = y.1 /\ Value.slice none q63 q63 = Value.slice none q63 q63 /\ Value.slice none q63 q63 = Value.slice none q63 q63 /\ x.1 = x.1 /\ x.2.1 = x.2.1
  /\ I (q34, ()) (y_1.1, [], ())) /\ ∀ (y_3 : q1) (z : q26), (q30 y_3) -> (Kd.wf q125 z.1 /\ Kd.wf q169 z.2.1 /\ True) -> I y_3 z -> (decide (y_3.1 < (lnZ y_1.1)) = true -> (q34 <= y_3.1 /\
  y_3.1 < (lnZ z.1)) /\ q65 <= q61 /\ True /\ (∀ (y_4 : Unit), True -> decide ((q306 z y_3).1 = q73) = true -> lenB (q306 z y_3).2 <= q95 /\ (∀ (y_5 : q17), (q147 y_5) -> (y_5.1, y_5.2.1) =
  oneD (q306 z y_3).2 -> q65 <= q61 /\ True /\ (∀ (y_6 : Unit), True -> decide (q349 y_5) = true -> isTagD y_5.1.1 = true /\ (∀ (y_7 : Int × List Int × Unit), (wiZ y_7.1 /\ wsZ y_7.2.1 /\
  True) -> okE (y_5.1.1, y_5.1.2) = true /\ (y_7.1, y_7.2.1) = genE (y_5.1.1, y_5.1.2) -> List.length y_7.2.1 <= q149 /\ (∀ (y_8 : q4), (q41 y_8) -> y_8.1 = mayT y_7.1 y_7.2.1 -> True /\ (∀
  (y_9 : Unit), True -> y_8.1 = true -> q63 < q65 /\ (List.length z.2.1 + List.length [(y_7.1, y_7.2.1)]) * (24 : Nat) <= q94 /\ List.length z.2.1 + List.length [(y_7.1, y_7.2.1)] <= q93 /\
  (lnZ y_1.1) = (lnZ y_1.1) /\ y_1.2.2.1 = y_1.2.2.1 /\ Value.bool false = Value.bool false /\ y.2.2.1 = y.2.2.1 /\ y.2.1 = y.2.1 /\ y.1 = y.1 /\ Value.slice none q63 q63 = Value.slice none
  q63 q63 /\ Value.slice none q63 q63 = Value.slice none q63 q63 /\ x.1 = x.1 /\ x.2.1 = x.2.1 /\ I (wrZ (q138 y_3), ()) (z.1, z.2.1 ++ [(y_7.1, y_7.2.1)], ()) /\ μ (wrZ (q138 y_3), ()) (z.1,
  z.2.1 ++ [(y_7.1, y_7.2.1)], ()) < μ y_3 z) /\ ∀ (y : Unit), Kd.wf Kd.unit y -> y_8.1 = false -> (rdS x.1 x.2.1).2.2 = false) /\ True) /\ ∀ (y : Unit), Kd.wf Kd.unit y -> okE (y_5.1.1,
  y_5.1.2) = false -> (rdS x.1 x.2.1).2.2 = false) /\ ∀ (y : Unit), Kd.wf Kd.unit y -> decide (q349 y_5) = false -> (rdS x.1 x.2.1).2.2 = false) /\ True) /\ ∀ (y : Unit), Kd.wf Kd.unit y ->
  decide ((q306 z y_3).1 = q73) = false -> (rdS x.1 x.2.1).2.2 = false) /\ (decide (y_3.1 < (lnZ y_1.1)) = false -> rdS x.1 x.2.1 = (z.2.1, y.2.2.1, true))) /\ ∀ (y : Unit), Kd.wf Kd.unit y
  -> (q305 y_1) = false -> (rdS x.1 x.2.1).2.2 = false) /\ True)) /\ True
theorem e49 : t49 = Con.vc c_ext_toTrees GL (mkEnvO ty [(77, conSem c_ext_take), (72, conSem c_der_All), (42, conSem c_ext_must), (102, conSem c_der_One), (63, conSem c_ext_general), (94, conSem c_within_May)] [] [] [0, 1, 4, 5, 6, 7, 8, 9, 10, 12, 14, 15, 16, 17, 18, 27, 49, 50, 51, 52] [1000000]) {} Tryz.f49.ntmps Tryz.f49.results.toList (bodyOf Tryz.f49) := by kernel_rfl
theorem k49 : t49 := by
  unfold t49
  delta q20 q269 q252 q22 q271 q95 q18 q157 q267 q307 q304 q368 q305 q127 lnZ q63 q34 q1 q26 q30 q125 q169 q65 q61 q306 q73 q17 q147 q349 wiZ wsZ q149 q4 q41 q94 q93 wrZ q138 q387 wyZ wbZ q332 q421 q365 q388 q330 q353 q334 q452 q425 q451
  rintro ⟨l, t, _⟩ hx hp
  have hp : lenEs l ≤ 2000000 := hp
  have hwl : ∀ e ∈ l, Bys e.2 := fun e he => sl_bys (hx.1.2 e he).2
  try dsimp +instances only [dft_int, dft_sl, dft_str]
  simp only [true_and, and_true, eq_self_iff_true, implies_true, reduceCtorEq, false_implies, true_implies, decide_eq_true_eq, decide_eq_false_iff_not, beq_self_eq_true, Bool.not_eq_true', ne_eq, Decidable.not_not, List.nil_append, List.length_singleton, List.length_cons, List.length_nil, Nat.zero_add, Nat.add_zero, Nat.mul_one, and_self, beq_iff_eq, Bool.not_true, Bool.not_false, Bool.not_eq_false', Bool.cond_false_right, Bool.and_eq_true, imp_self, Bool.not_eq_true, Bool.cond_true_left, Bool.or_eq_true]
  have hdE : ((Kd.int IntKind.i64).pair (Kd.int IntKind.u8).sl).dft = edft := rfl
  try simp only [hdE]
  rintro ⟨q, ok, r, _⟩ _ e
  simp only at e ⊢
  refine ⟨fun h => ?_, fun h => ?_⟩
  . subst h
    have hr := take_false (l := l) (t := t) (by rw [← e])
    rw [← e] at hr
    simp only at hr
    rw [rdS, ← e, if_pos (by first | rfl | trivial), hr]
  . subst h
    have hl := take_true (l := l) (t := t) (by rw [← e])
    rw [← e] at hl
    simp only at hl
    have hmq : (t, q) ∈ l := by rw [hl]; exact List.mem_cons_self
    have hq : Bys q := hwl _ hmq
    have hql : q.length ≤ 2000000 := by have := el_mem hmq; simp only at this; omega
    refine ⟨by show q.length ≤ _; omega, ?_⟩
    rintro ⟨L, n, f, _⟩ _ e2
    simp only at e2 ⊢
    have hLl : L.length ≤ 2000000 ∧ ∀ x ∈ L, x.2.length ≤ 2000000 := by
      have h1 := allD_len q
      rw [← e2] at h1
      simp only at h1
      exact ⟨by omega, fun x hx => by have := h1.2 x hx; omega⟩
    have hD : rdS l t = if f = 0 ∧ L ≠ [] ∧ L.length ≤ 16 ∧ (L.all fun e => (rdT e).2) = true then (L.map fun e => (rdT e).1, r, true) else ([], [], false) := by
      rw [rdS, ← e, if_neg (by simp)]
      simp only
      rw [← e2]
    refine ⟨fun _ h => ?_, fun _ _ h => ?_⟩
    . have hf := flat_all hq (by rw [← e2]; exact h.1.1)
      rw [← e2] at hf
      simp only at hf
      have hB : ∀ y ∈ L, Bys y.2 := fun y hy z hz => hq z (by
        rw [hf.1]
        refine List.mem_flatMap.2 ⟨y, hy, ?_⟩
        rw [putB]
        exact List.mem_cons_of_mem _ (List.mem_append_right _ hz))
      have hbad : ∀ {i : Nat}, i < L.length → (rdT (L.getD i edft)).2 = false → (rdS l t).2.2 = false := fun hi h => by
        rw [hD, if_neg]
        rintro ⟨_, _, _, h1⟩
        have := List.all_eq_true.1 h1 _ (gd_mem L edft _ hi)
        rw [h] at this; cases this
      have hne : L ≠ [] := fun hc => by rw [hc] at h; exact absurd h.1.2 (by decide)
      refine ⟨fun y z => 0 ≤ y.1 ∧ y.1 ≤ L.length ∧ z.1 = L ∧ z.2.1 = (L.take y.1.toNat).map (fun e => (rdT e).1) ∧ ∀ x ∈ L.take y.1.toNat, (rdT x).2 = true, fun y _ => ((L.length : Int) - y.1).toNat, ⟨Int.le_refl 0, by simp only; omega, rfl, by simp, by simp⟩, ?_⟩
      rintro ⟨i, _⟩ ⟨row, acc, _⟩ _ _ ⟨h0, h1, h2, h3, h4⟩
      simp only at h0 h1 h2 h3 h4 ⊢
      simp only [h2]
      have hal : acc.length = i.toNat := by rw [h3, List.length_map, List.length_take]; omega
      refine ⟨fun hi => ?_, fun hi => ?_⟩
      . have hmem := gd_mem L edft i.toNat (by omega)
        have hml := hLl.2 _ hmem
        refine ⟨⟨h0, hi⟩, by decide, fun _ h48 => ?_, fun _ _ h48 => ?_⟩
        . refine ⟨by show (L.getD i.toNat edft).2.length ≤ _; omega, ?_⟩
          rintro ⟨⟨u, c⟩, g, _⟩ _ e3
          simp only at e3 ⊢
          have hcl : c.length ≤ 2000000 := by
            have := oneD_len (L.getD i.toNat edft).2
            have e3' : ((u, c), g) = oneD (L.getD i.toNat edft).2 := e3
            rw [← e3'] at this
            simp only at this; omega
          have hR : rdT (L.getD i.toNat edft) = if g = 0 ∧ okE (u, c) = true ∧ mayTr (genE (u, c)) = true then (genE (u, c), true) else (gdft, false) := by
            have e3' : ((u, c), g) = oneD (L.getD i.toNat edft).2 := e3
            rw [rdT, ← e3']
            have h48' : (L.getD i.toNat edft).1 = 48 := h48
            simp only [h48', true_and]
          refine ⟨by decide, fun _ hg => ?_, fun _ _ hg => ?_⟩
          . have hbk := one_back (hB _ hmem) (by rw [← show ((u, c), g) = oneD (L.getD i.toNat edft).2 from e3]; exact hg)
            rw [← show ((u, c), g) = oneD (L.getD i.toNat edft).2 from e3] at hbk
            refine ⟨hbk.1, ?_, fun _ _ hk => ?_⟩
            . rintro ⟨k, s, _⟩ _ ⟨hok, e4⟩
              simp only at e4 ⊢
              obtain ⟨rfl, rfl⟩ := Prod.mk.inj e4
              refine ⟨by omega, ?_⟩
              rintro ⟨y, _⟩ _ e5
              simp only at e5 ⊢
              refine ⟨fun _ hy => ?_, fun _ _ hy => ?_⟩
              . have hm : mayTr (genE (u, s)) = true := e5.symm.trans hy
                rw [if_pos ⟨hg, hok, hm⟩] at hR
                rw [wrapM (i + 1) (by omega) (by omega)]
                refine ⟨by decide, by omega, by omega, ⟨by omega, by omega, trivial, ?_, ?_⟩, by omega⟩
                . rw [show (i + 1).toNat = i.toNat + 1 by omega, map_take _ L edft i.toNat (by omega), h3, hR]
                  rfl
                . rw [show (i + 1).toNat = i.toNat + 1 by omega]
                  exact all_take edft (by omega) h4 (by rw [hR])
              . refine hbad (i := i.toNat) (by omega) ?_
                have hm : mayTr (genE (u, s)) = false := e5.symm.trans hy
                rw [hR, if_neg (by rw [hm]; simp)]
            . refine hbad (i := i.toNat) (by omega) ?_
              rw [hR, if_neg (by rw [hk]; simp)]
          . refine hbad (i := i.toNat) (by omega) ?_
            rw [hR, if_neg (fun hc => hg hc.1)]
        . refine hbad (i := i.toNat) (by omega) ?_
          rw [rdT, if_neg (fun hc => h48 hc.1)]
      . rw [take_all (by omega)] at h3 h4
        rw [hD, if_pos ⟨h.1.1, hne, by omega, List.all_eq_true.2 h4⟩, h3]
    . rw [hD, if_neg]
      rintro ⟨c1, c2, c3, _⟩
      have : 0 < L.length := List.length_pos_iff.2 c2
      rw [decide_eq_true c1, decide_eq_true (show (0 : Int) < L.length by omega), decide_eq_true (show (L.length : Int) ≤ 16 by omega)] at h
      cases h
theorem h49 : c_ext_toTrees.ok Tryz.prog GL 49 := conO_ok (H := {}) (mkEnvO_ok (gl := GL) (l := [(77, conSem c_ext_take), (72, conSem c_der_All), (42, conSem c_ext_must), (102, conSem c_der_One), (63, conSem c_ext_general), (94, conSem c_within_May)]) (q := []) (d := []) _ [1000000] tyOk (by kernel_rfl) ⟨h77.call, h72.call, h42.call, h102.call, h63.call, h94.call, trivial⟩ trivial trivial) (by kernel_rfl) (by kernel_rfl) (Eq.mp e49 k49)
noncomputable def i101 : DefSem := vcDef (mkEnv ty [] [] [] [0, 1, 2, 4, 5, 8, 15]) {} Tryz.f101.ntmps Tryz.f101.results.toList (bodyOf Tryz.f101)
theorem i101_ok : DefOk Tryz.prog GL 101 i101 := def_ok {} (mkEnv_ok (gl := GL) (l := []) (q := []) (d := []) _ tyOk (by kernel_rfl) trivial trivial trivial) (by kernel_rfl) (by kernel_rfl)
noncomputable def i48 : CallSem := vcFn (mkEnvO ty [(50, conSem c_ext_inside), (49, conSem c_ext_toTrees), (42, conSem c_ext_must)] [] [] [0, 1, 2, 3, 4] [1000000]) {} Tryz.f48.ntmps Tryz.f48.results.toList (bodyOf Tryz.f48)
theorem i48_ok : CallOk Tryz.prog GL 48 i48 := inlO_ok {} (mkEnvO_ok (gl := GL) (l := [(50, conSem c_ext_inside), (49, conSem c_ext_toTrees), (42, conSem c_ext_must)]) (q := []) (d := []) _ [1000000] tyOk (by kernel_rfl) ⟨h50.call, h49.call, h42.call, trivial⟩ trivial trivial) (by kernel_rfl) (by kernel_rfl)
noncomputable def i47 : CallSem := vcFn (mkEnv ty [(48, i48)] [] [(101, i101)] [0, 2, 3]) {} Tryz.f47.ntmps Tryz.f47.results.toList (bodyOf Tryz.f47)
theorem i47_ok : CallOk Tryz.prog GL 47 i47 := inl_ok {} (mkEnv_ok (gl := GL) (l := [(48, i48)]) (q := []) (d := [(101, i101)]) _ tyOk (by kernel_rfl) ⟨i48_ok, trivial⟩ trivial ⟨i101_ok, trivial⟩) (by kernel_rfl) (by kernel_rfl)
def t11 : Prop :=
  ∀ (x : q5), (q96 x) -> lenB x.1 <= q252 -> List.length [SV.dat q275 x.1] <= q61 /\ q65 <= q61 /\ q65 <= q61 /\ q36 <= q61 /\ q65 <= q61 /\ lenB x.1 <= q252 /\ (∀ (y : q23), (q272 y) -> insD
  x.1 q73 = (y.1, true) -> lenEs y.1 <= q252 /\ (∀ (y_1 : q26), (q308 y_1) -> rdS y.1 (160 : Int) = (y_1.1, y_1.2.1, true) -> lenEs y_1.2.1 <= q252 /\ (∀ (y : q26), (q308 y) -> rdS y_1.2.1
  (161 : Int) = (y.1, y.2.1, true) -> (decide (q369 y) = true -> True) /\ (q309 y) /\ (decide (q369 y) = true -> True) /\ (q309 y) /\ (decide (q369 y) = true -> (decide (q369 y) == true) =
  true /\ (decide (q369 y) == true) = true /\ True) /\ (q309 y) /\ (decide (q369 y) = true -> (decide (q369 y) == true) = true) /\ True /\ (∀ (y_2 : Unit), True -> (bif decide (q369 y) then
  decide (q34 < wrZ ((lnZ y_1.1) + (lnZ y.1))) else false) = true -> ((y_1.1, y.1), q34) = ToTreesD x.1) /\ ∀ (y_2 : Unit), Kd.wf Kd.unit y_2 -> (bif decide (q369 y) then decide (q34 < wrZ
  ((lnZ y_1.1) + (lnZ y.1))) else false) = false -> q63 <= q61 /\ q65 <= q61 /\ (([], []), q263) = ToTreesD x.1) /\ ∀ (y : Unit), Kd.wf Kd.unit y -> (rdS y_1.2.1 (161 : Int)).2.2 = false ->
  q63 <= q61 /\ q65 <= q61 /\ (([], []), q263) = ToTreesD x.1) /\ ∀ (y_1 : Unit), Kd.wf Kd.unit y_1 -> (rdS y.1 (160 : Int)).2.2 = false -> q63 <= q61 /\ q65 <= q61 /\ (([], []), q263) =
  ToTreesD x.1) /\ ∀ (y : Unit), Kd.wf Kd.unit y -> (insD x.1 q73).2 = false -> q63 <= q61 /\ q65 <= q61 /\ (([], []), q263) = ToTreesD x.1
theorem e11 : t11 = Con.vc c_ext_ToTrees GL (mkEnv ty [(47, i47)] [] [] [0, 1, 2, 3]) {} Tryz.f11.ntmps Tryz.f11.results.toList (bodyOf Tryz.f11) := by kernel_rfl
theorem k11 : t11 := by
  unfold t11
  delta q5 q96 q252 q275 q61 q65 q36 q23 q272 q73 q26 q308 q369 q309 q34 wrZ lnZ q63 q263 wyZ q371 q387 q388 q421 q452 q425
  rintro ⟨b, _⟩ hx hp
  have hp : b.length ≤ 2000000 := hp
  have hb : Bys b := sl_bys hx.1
  try dsimp +instances only [dft_int, dft_sl, dft_str]
  simp only [true_and, and_true, eq_self_iff_true, implies_true, reduceCtorEq, false_implies, true_implies, decide_eq_true_eq, decide_eq_false_iff_not, beq_self_eq_true, Bool.not_eq_true', ne_eq, Decidable.not_not, List.nil_append, List.length_singleton, List.length_cons, List.length_nil, Nat.zero_add, Nat.add_zero, Nat.mul_one, and_self, beq_iff_eq, Bool.not_true, Bool.not_false, Bool.not_eq_false', Bool.cond_false_right, Bool.and_eq_true, imp_self, Bool.not_eq_true, Bool.cond_true_left, Bool.or_eq_true]
  refine ⟨by decide, by decide, by decide, by decide, by decide, hp, ?_, fun _ _ h => ⟨by decide, by decide, ?_⟩⟩
  . rintro ⟨L, _⟩ _ e
    simp only at e ⊢
    have hLs : lenEs L ≤ 2000000 := by
      have h1 := ins_of (b := b) (t := 48) hb (by rw [e])
      rw [e] at h1
      simp only at h1
      have h2 := cont_sum L
      have h3 := put_cont (48, L.flatMap putB)
      rw [h1.1] at h3
      simp only at h3
      exact Nat.le_trans h2 (Nat.le_trans h3 hp)
    have hD : ToTreesD b = if (rdTs L).2 = true then ((rdTs L).1, 0) else (([], []), 150) := by
      rw [ToTreesD, e]; simp only [true_and]
    refine ⟨hLs, ?_, fun _ _ h => ⟨by decide, by decide, ?_⟩⟩
    . rintro ⟨p, r, _⟩ ⟨hwp, _⟩ e1
      simp only at e1 hwp ⊢
      have hrs : lenEs r ≤ 2000000 := by
        have h9 := rdS_rest (l := L) (t := 160) (by rw [e1])
        rw [e1] at h9
        exact Nat.le_trans h9 hLs
      refine ⟨hrs, ?_, fun _ _ h => ⟨by decide, by decide, ?_⟩⟩
      . rintro ⟨x, s, _⟩ ⟨hwx, _⟩ e2
        simp only at e2 hwx ⊢
        have hpl : p.length ≤ 16 ∧ x.length ≤ 16 := ⟨by have := rdS_few L 160; rw [e1] at this; exact this, by have := rdS_few r 161; rw [e2] at this; exact this⟩
        have hT : rdTs L = if s = [] ∧ ¬ (p = [] ∧ x = []) then ((p, x), true) else (([], []), false) := by
          rw [rdTs, e1]; simp only
          rw [e2]; simp only [true_and]
        rw [wrapM _ (by omega) (by omega)]
        refine ⟨fun _ h => ?_, fun _ _ h => ⟨by decide, by decide, ?_⟩⟩
        . have hs : s = [] := List.length_eq_zero_iff.1 (by omega)
          have hne : ¬ (p = [] ∧ x = []) := by
            rintro ⟨rfl, rfl⟩
            exact absurd h.2 (by decide)
          rw [if_pos ⟨hs, hne⟩] at hT
          rw [hD, hT, if_pos rfl]
        . rw [if_neg] at hT
          . rw [hD, hT, if_neg (by decide)]
          . rintro ⟨h1, h2⟩
            have h3 : (0 : Int) < p.length + x.length := by
              by_cases hc : p = []
              . have : x ≠ [] := fun hx => h2 ⟨hc, hx⟩
                have := List.length_pos_iff.2 this
                omega
              . have := List.length_pos_iff.2 hc
                omega
            rw [h1, decide_eq_true h3] at h
            simp at h
      . rw [hD, if_neg]
        rw [rdTs, e1, if_neg]
        . decide
        . rintro ⟨_, hc, _⟩
          simp only at hc
          rw [h] at hc; cases hc
    . rw [hD, if_neg]
      rw [rdTs, if_neg]
      . decide
      . rintro ⟨hc, _⟩
        rw [h] at hc; cases hc
  . rw [ToTreesD, if_neg]
    rintro ⟨h1, _⟩
    rw [h] at h1; cases h1
theorem h11 : c_ext_ToTrees.ok Tryz.prog GL 11 := con_ok (H := {}) (mkEnv_ok (gl := GL) (l := [(47, i47)]) (q := []) (d := []) _ tyOk (by kernel_rfl) ⟨i47_ok, trivial⟩ trivial trivial) (by kernel_rfl) (by kernel_rfl) (Eq.mp e11 k11)
def t25 : Prop :=
  ∀ (x : List q289 × Unit), Kd.wf q287 x.1 /\ True -> lenX x.1 <= q252 -> lenX x.1 <= q252 /\ (∀ (y : q4), (q41 y) -> y.1 = mayX x.1 -> ((!y.1) = true -> ([], q263) = ExtsD x.1) /\ ((!y.1) =
  false -> ∃ (I : q24), ∃ (μ : q25), ((lnZ x.1) = (lnZ x.1) /\ x.1 = x.1 /\ Value.bool false = Value.bool false /\ q34 = q34 /\ Value.slice none q63 q63 = Value.slice none q63 q63 /\ x.1 =
  x.1 /\ I (q34, ()) ([], ())) /\ ∀ (y : q1) (z : q11), (q30 y) -> (q100 z) -> I y z -> (decide (y.1 < (lnZ x.1)) = true -> (q34 <= y.1 /\ y.1 < (lnZ x.1)) /\ (3 : Nat) <= q61 /\ True /\ (∀
  (y_1 : q0), (q135 y_1) -> (y_1.1, y_1.2.1) = EncO [q67, (5 : Int), (29 : Int), (q313 x y).1] -> ((q313 x y).2.1 = true -> True /\ (∀ (y_2 : q5), (q96 y_2) -> y_2.1 = BoolD true -> (isTagD
  q62 = true /\ lenF [y_2.1] <= q257) /\ (∀ (y_3 : q5), (q96 y_3) -> y_3.1 = putB (q62, List.flatten [y_2.1]) -> (((q292 y_1) /\ (∀ (y_4 : q5), (q96 y_4) -> y_4.1 = putB (q333, List.flatten
  [y_1.1]) -> ((((q312 x y) /\ (∀ (y_5 : q5), (q96 y_5) -> y_5.1 = putB (q64, List.flatten [(q313 x y).2.2]) -> (((q314 y_4 y_3 y_5) /\ (∀ (y_6 : q5), (q96 y_6) -> y_6.1 = putB (q73,
  List.flatten [y_4.1, y_3.1, y_5.1]) -> (q311 z y_6 x I y μ) /\ True) /\ True) /\ True) /\ True) /\ True) /\ True) /\ True) /\ True) /\ True) /\ (((q292 y_1) /\ (∀ (y_4 : q5), (q96 y_4) ->
  y_4.1 = putB (q333, List.flatten [y_1.1]) -> (((q312 x y) /\ (∀ (y_5 : q5), (q96 y_5) -> y_5.1 = putB (q64, List.flatten [(q313 x y).2.2]) -> (((q314 y_4 y_3 y_5) /\ (∀ (y_6 : q5), (q96
  y_6) -> y_6.1 = putB (q73, List.flatten [y_4.1, y_3.1, y_5.1]) -> (q311 z y_6 x I y μ) /\ True) /\ True) /\ True) /\ True) /\ True) /\ True) /\ True) /\ True) /\ (((q292 y_1) /\ (∀ (y_4 :
  q5), (q96 y_4) -> y_4.1 = putB (q333, List.flatten [y_1.1]) -> ((q312 x y) /\ (∀ (y_5 : q5), (q96 y_5) -> y_5.1 = putB (q64, List.flatten [(q313 x y).2.2]) -> (((q314 y_4 y_3 y_5) /\ (∀
  (y_6 : q5), (q96 y_6) -> y_6.1 = putB (q73, List.flatten [y_4.1, y_3.1, y_5.1]) -> (q311 z y_6 x I y μ) /\ True) /\ True) /\ True) /\ True) /\ True) /\ True) /\ True) /\ True) /\ True) /\
  True) /\ ((((q292 y_1) /\ (∀ (y_4 : q5), (q96 y_4) -> y_4.1 = putB (q333, List.flatten [y_1.1]) -> (((q312 x y) /\ (∀ (y_5 : q5), (q96 y_5) -> y_5.1 = putB (q64, List.flatten [(q313 x
  y).2.2]) -> (((q314 y_4 y_3 y_5) /\ (∀ (y_6 : q5), (q96 y_6) -> y_6.1 = putB (q73, List.flatten [y_4.1, y_3.1, y_5.1]) -> (q311 z y_6 x I y μ) /\ True) /\ True) /\ True) /\ True) /\ True)
  /\ True) /\ True) /\ True) /\ (((q292 y_1) /\ (∀ (y_4 : q5), (q96 y_4) -> y_4.1 = putB (q333, List.flatten [y_1.1]) -> ((q312 x y) /\ (∀ (y_5 : q5), (q96 y_5) -> y_5.1 = putB (q64,
  List.flatten [(q313 x y).2.2]) -> (((q314 y_4 y_3 y_5) /\ (∀ (y_6 : q5), (q96 y_6) -> y_6.1 = putB (q73, List.flatten [y_4.1, y_3.1, y_5.1]) -> (q311 z y_6 x I y μ) /\ True) /\ True) /\
  True) /\ True) /\ True) /\ True) /\ True) /\ True) /\ True) /\ ((((q292 y_1) /\ (∀ (y_4 : q5), (q96 y_4) -> y_4.1 = putB (q333, List.flatten [y_1.1]) -> ((q312 x y) /\ (∀ (y_5 : q5), (q96
  y_5) -> y_5.1 = putB (q64, List.flatten [(q313 x y).2.2]) -> (((q314 y_4 y_3 y_5) /\ (∀ (y_6 : q5), (q96 y_6) -> y_6.1 = putB (q73, List.flatten [y_4.1, y_3.1, y_5.1]) -> (q311 z y_6 x I y
  μ) /\ True) /\ True) /\ True) /\ True) /\ True) /\ True) /\ True) /\ True) /\ True) /\ True) /\ True) /\ True) /\ True) /\ ((q313 x y).2.1 = false -> (((q292 y_1) /\ (∀ (y_2 : q5), (q96
  y_2) -> y_2.1 = putB (q333, List.flatten [y_1.1]) -> (((q370 x y y_2 z I μ) /\ True) /\ True) /\ True) /\ True) /\ (q310 y_1 x y z I μ) /\ True) /\ ((q310 y_1 x y z I μ) /\ ((((isTagD q333
  = true /\ lenF [y_1.1] <= q364) /\ (∀ (y_2 : q5), (wyZ y_2.1 /\ True) -> y_2.1 = putB (q333, List.flatten [y_1.1]) -> (q370 x y y_2 z I μ) /\ True) /\ True) /\ True) /\ True) /\ True) /\
  True)) /\ True) /\ (decide (y.1 < (lnZ x.1)) = false -> (isTagD q73 = true /\ lenF z.1 <= q257) /\ (∀ (y : q5), (q96 y) -> y.1 = putB (q73, List.flatten z.1) -> (y.1, q34) = ExtsD x.1) /\
  True))) /\ True
theorem e25 : t25 = Con.vc c_ext_Encode GL (mkEnvO ty [(68, conSem c_ext_may), (58, conSem c_oid_Encode), (43, conSem c_ext_wrap), (69, conSem c_num_Bool)] [] [] [0, 2, 3, 4, 6, 7, 9, 12, 13, 14, 15, 16, 27] [1000000]) {} Tryz.f25.ntmps Tryz.f25.results.toList (bodyOf Tryz.f25) := by kernel_rfl
theorem k25 : t25 := by
  unfold t25
  delta q289 q287 q252 q4 q41 q263 q24 q25 lnZ q34 q63 q1 q11 q30 q100 q61 q0 q135 q67 q313 q5 q96 q62 q257 q292 q333 q312 q64 q314 q73 q311 q370 q310 q364 wyZ q436 wbZ wiZ q341 q330 q408 q439 q438 q441 q430 q416 q423 q422 q421 wrZ q410 q453 q451
  rintro ⟨l, _⟩ hx hp
  have hp : l.length ≤ 2000000 := hp
  try dsimp +instances only [dft_int, dft_sl, dft_str]
  simp only [true_and, and_true, eq_self_iff_true, implies_true, reduceCtorEq, false_implies, true_implies, decide_eq_true_eq, decide_eq_false_iff_not, beq_self_eq_true, Bool.not_eq_true', ne_eq, Decidable.not_not, List.nil_append, List.length_singleton, List.length_cons, List.length_nil, Nat.zero_add, Nat.add_zero, Nat.mul_one, and_self, beq_iff_eq, Bool.not_true, Bool.not_false, Bool.not_eq_false', Bool.cond_false_right, Bool.and_eq_true, imp_self, Bool.not_eq_true, Bool.cond_true_left, Bool.or_eq_true]
  have hdX : ((Kd.int IntKind.i64).pair (Kd.bool.pair (Kd.int IntKind.u8).sl)).dft = xdft := rfl
  try simp only [hdX]
  try refine ⟨hp, ?_⟩
  rintro ⟨y, _⟩ _ e
  simp only at e ⊢
  refine ⟨fun hy => ?_, fun hy => ?_⟩
  . rw [ExtsD, if_pos (e.symm.trans hy)]
  . have hm : mayX l = true := e.symm.trans hy
    obtain ⟨hne, h16, hall⟩ := mayX_args hm
    have hfl := flat_le extB 65610 l (fun x hx => (extB_len (hall x hx).1).2)
    have hE : ExtsD l = (putB (48, l.flatMap extB), 0) := by rw [ExtsD, if_neg (by rw [hm]; decide)]
    rw [hE]
    refine ⟨fun y z => 0 ≤ y.1 ∧ y.1 ≤ l.length ∧ z.1.length = y.1.toNat ∧ z.1.flatten = (l.take y.1.toNat).flatMap extB, fun y _ => ((l.length : Int) - y.1).toNat, ⟨Int.le_refl 0, by simp only; omega, rfl, rfl⟩, ?_⟩
    rintro ⟨i, _⟩ ⟨zs, _⟩ _ _ ⟨h0, h1, h2, h3⟩
    simp only at h0 h1 h2 h3 ⊢
    refine ⟨fun hi => ?_, fun hi => ?_⟩
    . have hmem := gd_mem l xdft i.toNat (by omega)
      obtain ⟨hv, hi0, hi1⟩ := hall _ hmem
      have hlens := extB_len hv
      have hmay : mayO (extA ++ [(l.getD i.toNat xdft).1]) = true := ext_mayO hi0 hi1
      have hel := encO_len (extA ++ [(l.getD i.toNat xdft).1])
      have h4 : (extA ++ [(l.getD i.toNat xdft).1]).length = 4 := rfl
      have e3 : EncO [2, 5, 29, (l.getD i.toNat xdft).1] = (encO (extA ++ [(l.getD i.toNat xdft).1]), 0) := if_pos hmay
      have hstep : (l.take (i.toNat + 1)).flatMap extB = zs.flatten ++ extB (l.getD i.toNat xdft) := by rw [flat_take extB l xdft i.toNat (by omega), h3]
      refine ⟨⟨h0, hi⟩, by decide, ?_⟩
      rintro ⟨c, f, _⟩ _ e2
      simp only at e2 ⊢
      rw [e3] at e2
      obtain ⟨rfl, rfl⟩ := Prod.mk.inj e2
      simp only [flat_one]
      have hw : IntKind.i64.wrap (i + 1) = i + 1 := wrapM _ (by omega) (by omega)
      have hn : (i + 1).toNat = i.toNat + 1 := by omega
      refine ⟨fun hc => ?_, fun hc => ?_⟩
      . rintro ⟨d, _⟩ _ e4
        simp only at e4 ⊢
        subst e4
        refine ⟨⟨by decide, by decide⟩, ?_⟩
        rintro ⟨d1, _⟩ _ e5
        simp only at e5 ⊢
        refine ⟨⟨by decide, by rw [lenF, flat_one]; omega⟩, ?_⟩
        rintro ⟨d2, _⟩ _ e6
        simp only at e6 ⊢
        refine ⟨⟨by decide, by rw [lenF, flat_one]; omega⟩, ?_⟩
        rintro ⟨d3, _⟩ _ e7
        simp only at e7 ⊢
        have hcat : [d2, d1, d3].flatten = putB (6, encO (extA ++ [(l.getD i.toNat xdft).1])) ++ (caB (l.getD i.toNat xdft).2.1 ++ putB (4, (l.getD i.toNat xdft).2.2)) := by
          rw [e5, e6, e7, caB, if_pos hc]; simp [BoolD]
        refine ⟨⟨by decide, by rw [lenF, hcat]; omega⟩, ?_⟩
        rintro ⟨d4, _⟩ _ e8
        simp only at e8 ⊢
        have e9 : d4 = extB (l.getD i.toNat xdft) := by rw [e8, hcat, extB_parts]
        rw [hw]
        refine ⟨by decide, by omega, by omega, ⟨by omega, by omega, by rw [List.length_append]; simp only [List.length_cons, List.length_nil]; omega, ?_⟩, by omega⟩
        rw [hn, hstep, List.flatten_append, flat_one, e9]
      . refine ⟨⟨by decide, by rw [lenF, flat_one]; omega⟩, ?_⟩
        rintro ⟨d2, _⟩ _ e6
        simp only at e6 ⊢
        refine ⟨⟨by decide, by rw [lenF, flat_one]; omega⟩, ?_⟩
        rintro ⟨d3, _⟩ _ e7
        simp only at e7 ⊢
        have hcat : [d2, [], d3].flatten = putB (6, encO (extA ++ [(l.getD i.toNat xdft).1])) ++ (caB (l.getD i.toNat xdft).2.1 ++ putB (4, (l.getD i.toNat xdft).2.2)) := by
          rw [e6, e7, caB, if_neg (by rw [hc]; decide)]; simp
        refine ⟨⟨by decide, by rw [lenF, hcat]; omega⟩, ?_⟩
        rintro ⟨d4, _⟩ _ e8
        simp only at e8 ⊢
        have e9 : d4 = extB (l.getD i.toNat xdft) := by rw [e8, hcat, extB_parts]
        rw [hw]
        refine ⟨by decide, by omega, by omega, ⟨by omega, by omega, by rw [List.length_append]; simp only [List.length_cons, List.length_nil]; omega, ?_⟩, by omega⟩
        rw [hn, hstep, List.flatten_append, flat_one, e9]
    . rw [take_all (by omega)] at h3
      refine ⟨⟨by decide, by rw [lenF, h3]; omega⟩, ?_⟩
      rintro ⟨d, _⟩ _ e4
      simp only at e4 ⊢
      rw [e4, h3]
theorem h25 : c_ext_Encode.ok Tryz.prog GL 25 := conO_ok (H := {}) (mkEnvO_ok (gl := GL) (l := [(68, conSem c_ext_may), (58, conSem c_oid_Encode), (43, conSem c_ext_wrap), (69, conSem c_num_Bool)]) (q := []) (d := []) _ [1000000] tyOk (by kernel_rfl) ⟨h68.call, h58.call, h43.call, h69.call, trivial⟩ trivial trivial) (by kernel_rfl) (by kernel_rfl) (Eq.mp e25 k25)
noncomputable def i116 : DefSem := vcDef (mkEnv ty [] [] [] [0, 1, 2, 4, 5, 8, 15]) {} Tryz.f116.ntmps Tryz.f116.results.toList (bodyOf Tryz.f116)
theorem i116_ok : DefOk Tryz.prog GL 116 i116 := def_ok {} (mkEnv_ok (gl := GL) (l := []) (q := []) (d := []) _ tyOk (by kernel_rfl) trivial trivial trivial) (by kernel_rfl) (by kernel_rfl)
noncomputable def i71 : CallSem := vcFn (mkEnvO ty [(50, conSem c_ext_inside), (42, conSem c_ext_must), (72, conSem c_der_All), (73, conSem c_ext_want), (74, conSem c_ext_yes), (66, conSem c_ext_last), (68, conSem c_ext_may)] [] [] [0, 1, 2, 4, 5, 7, 8, 9, 10, 11, 13, 14, 15, 16] [1000000]) {} Tryz.f71.ntmps Tryz.f71.results.toList (bodyOf Tryz.f71)
theorem i71_ok : CallOk Tryz.prog GL 71 i71 := inlO_ok {} (mkEnvO_ok (gl := GL) (l := [(50, conSem c_ext_inside), (42, conSem c_ext_must), (72, conSem c_der_All), (73, conSem c_ext_want), (74, conSem c_ext_yes), (66, conSem c_ext_last), (68, conSem c_ext_may)]) (q := []) (d := []) _ [1000000] tyOk (by kernel_rfl) ⟨h50.call, h42.call, h72.call, h73.call, h74.call, h66.call, h68.call, trivial⟩ trivial trivial) (by kernel_rfl) (by kernel_rfl)
noncomputable def i70 : CallSem := vcFn (mkEnv ty [(71, i71)] [] [(116, i116)] [0, 2, 3]) {} Tryz.f70.ntmps Tryz.f70.results.toList (bodyOf Tryz.f70)
theorem i70_ok : CallOk Tryz.prog GL 70 i70 := inl_ok {} (mkEnv_ok (gl := GL) (l := [(71, i71)]) (q := []) (d := [(116, i116)]) _ tyOk (by kernel_rfl) ⟨i71_ok, trivial⟩ trivial ⟨i116_ok, trivial⟩) (by kernel_rfl) (by kernel_rfl)
def t26 : Prop :=
  ∀ (x : q5), (q96 x) -> lenB x.1 <= q252 -> List.length [SV.dat q275 x.1] <= q61 /\ q36 <= q61 /\ q36 <= q61 /\ lenB x.1 <= q252 /\ (∀ (y : q23), (q272 y) -> insD x.1 q73 = (y.1, true) -> ∃
  (I : Int × Unit -> q126 × Unit × (Int × Unit) × List q127 × List q289 × List q289 × Unit -> Prop), ∃ (μ : Int × Unit -> q126 × Unit × (Int × Unit) × List q127 × List q289 × List q289 × Unit
  -> Nat), ((lnZ y.1) = (lnZ y.1) /\ Value.slice none q63 q63 = Value.slice none q63 q63 /\ q34 = q34 /\ Value.slice none q63 q63 = Value.slice none q63 q63 /\ x.1 = x.1 /\ I (q34, ()) ((x.1,
  ()), (), (q34, ()), y.1, [], [], ())) /\ ∀ (y_1 : q1) (z : q126 × Unit × (Int × Unit) × List q127 × List q289 × List q289 × Unit), (q30 y_1) -> (wyZ z.1.1 /\ True) /\ True /\ (wiZ z.2.2.1.1
  /\ True) /\ Kd.wf q125 z.2.2.2.1 /\ Kd.wf q287 z.2.2.2.2.1 /\ Kd.wf q287 z.2.2.2.2.2.1 /\ True -> I y_1 z -> (decide (y_1.1 < (lnZ y.1)) = true -> (q34 <= y_1.1 /\ y_1.1 < (lnZ z.2.2.2.1))
  /\ q65 <= q61 /\ True /\ (∀ (y_2 : Unit), True -> decide ((q315 z y_1).1 = q73) = true -> lenB (q315 z y_1).2 <= q95 /\ (∀ (y_3 : q18), (q157 y_3) -> (y_3.1, y_3.2.1, y_3.2.2.1) = allD
  (q315 z y_1).2 -> True /\ (∀ (y_4 : Unit), True -> decide (q267 y_3) = true -> True /\ (∀ (y_5 : List Int × List q127 × Unit), (wyZ y_5.1 /\ Kd.wf q125 y_5.2.1 /\ True) -> takeE y_3.1 q333
  = (y_5.1, true, y_5.2.1) -> True /\ (∀ (y_6 : Bool × List q127 × Unit), (wbZ y_6.1 /\ Kd.wf q125 y_6.2.1 /\ True) -> yesE y_5.2.1 = (y_6.1, y_6.2.1, true) -> True /\ (∀ (y_7 : List Int ×
  List q127 × Unit), (wyZ y_7.1 /\ Kd.wf q125 y_7.2.1 /\ True) -> takeE y_6.2.1 q64 = (y_7.1, true, y_7.2.1) -> True /\ (∀ (y_8 : Unit), True -> decide ((lnZ y_7.2.1) = q34) = true -> True /\
  (∀ (y_9 : q1), (q30 y_9) -> lastO y_5.1 [q67, (5 : Int), (29 : Int)] = (y_9.1, true) -> q63 < (3 : Nat) /\ (List.length z.2.2.2.2.1 + List.length [(y_9.1, y_6.1, y_7.1)]) * (40 : Nat) <=
  q94 /\ List.length z.2.2.2.2.1 + List.length [(y_9.1, y_6.1, y_7.1)] <= q93 /\ (lnZ y.1) = (lnZ y.1) /\ Value.slice none q63 q63 = Value.slice none q63 q63 /\ q34 = q34 /\ Value.slice none
  q63 q63 = Value.slice none q63 q63 /\ x.1 = x.1 /\ I (wrZ (q138 y_1), ()) ((z.1.1, ()), (), (z.2.2.1.1, ()), z.2.2.2.1, z.2.2.2.2.1 ++ [(y_9.1, y_6.1, y_7.1)], z.2.2.2.2.2.1, ()) /\ μ (wrZ
  (q138 y_1), ()) ((z.1.1, ()), (), (z.2.2.1.1, ()), z.2.2.2.1, z.2.2.2.2.1 ++ [(y_9.1, y_6.1, y_7.1)], z.2.2.2.2.2.1, ()) < μ y_1 z) /\ ∀ (y : Unit), Kd.wf Kd.unit y -> (lastO y_5.1 [q67, (5
  : Int), (29 : Int)]).2 = false -> q63 <= q61 /\ ([], q263) = ToExtsD x.1) /\ ∀ (y : Unit), Kd.wf Kd.unit y -> decide ((lnZ y_7.2.1) = q34) = false -> q63 <= q61 /\ ([], q263) = ToExtsD x.1)
  /\ ∀ (y : Unit), Kd.wf Kd.unit y -> (takeE y_6.2.1 q64).2.1 = false -> q63 <= q61 /\ ([], q263) = ToExtsD x.1) /\ ∀ (y : Unit), Kd.wf Kd.unit y -> (yesE y_5.2.1).2.2 = false -> q63 <= q61
  /\ ([], q263) = ToExtsD x.1) /\ ∀ (y : Unit), Kd.wf Kd.unit y -> (takeE y_3.1 q333).2.1 = false -> q63 <= q61 /\ ([], q263) = ToExtsD x.1) /\ ∀ (y : Unit), Kd.wf Kd.unit y -> decide (q267
  y_3) = false -> q63 <= q61 /\ ([], q263) = ToExtsD x.1) /\ True) /\ ∀ (y : Unit), Kd.wf Kd.unit y -> decide ((q315 z y_1).1 = q73) = false -> q63 <= q61 /\ ([], q263) = ToExtsD x.1) /\
  (decide (y_1.1 < (lnZ y.1)) = false -> lenX z.2.2.2.2.1 <= q252 /\ (∀ (y : q4), (q41 y) -> y.1 = mayX z.2.2.2.2.1 -> True /\ (∀ (y_2 : Unit), True -> y.1 = true -> (z.2.2.2.2.1, q34) =
  ToExtsD x.1) /\ ∀ (y_2 : Unit), Kd.wf Kd.unit y_2 -> y.1 = false -> q63 <= q61 /\ ([], q263) = ToExtsD x.1) /\ True)) /\ ∀ (y : Unit), Kd.wf Kd.unit y -> (insD x.1 q73).2 = false -> q63 <=
  q61 /\ ([], q263) = ToExtsD x.1
theorem e26 : t26 = Con.vc c_ext_Decode GL (mkEnv ty [(70, i70)] [] [] [0, 1, 2, 3]) {} Tryz.f26.ntmps Tryz.f26.results.toList (bodyOf Tryz.f26) := by kernel_rfl
theorem k26 : t26 := by
  unfold t26
  delta q5 q96 q252 q275 q61 q36 q23 q272 q73 q126 q127 q289 lnZ q63 q34 q1 q30 wyZ wiZ q125 q287 q65 q315 q95 q18 q157 q267 q333 wbZ q64 q67 q94 q93 wrZ q138 q263 q4 q41 q371 q387 q365 q436 q330 q353 q332 q334 q452 q425 q451 q453
  rintro ⟨b, _⟩ hx hp
  have hp : b.length ≤ 2000000 := hp
  have hb : Bys b := sl_bys hx.1
  try dsimp +instances only [dft_int, dft_sl, dft_str]
  simp only [true_and, and_true, eq_self_iff_true, implies_true, reduceCtorEq, false_implies, true_implies, decide_eq_true_eq, decide_eq_false_iff_not, beq_self_eq_true, Bool.not_eq_true', ne_eq, Decidable.not_not, List.nil_append, List.length_singleton, List.length_cons, List.length_nil, Nat.zero_add, Nat.add_zero, Nat.mul_one, and_self, beq_iff_eq, Bool.not_true, Bool.not_false, Bool.not_eq_false', Bool.cond_false_right, Bool.and_eq_true, imp_self, Bool.not_eq_true, Bool.cond_true_left, Bool.or_eq_true]
  have hdE : ((Kd.int IntKind.i64).pair (Kd.int IntKind.u8).sl).dft = edft := rfl
  try simp only [hdE]
  refine ⟨by decide, by decide, by decide, hp, ?_, fun _ _ h => ⟨by decide, ?_⟩⟩
  . rintro ⟨L, _⟩ _ e
    simp only at e ⊢
    have hLl : L.length ≤ 2000000 ∧ ∀ x ∈ L, x.2.length ≤ 2000000 := by
      have h1 := insD_len b 48
      rw [e] at h1
      simp only at h1
      exact ⟨by omega, fun x hx => by have := h1.2 x hx; omega⟩
    have hD : ToExtsD b = if (L.all fun e => (rdX e).2) = true ∧ mayX (L.map fun e => (rdX e).1) = true then (L.map fun e => (rdX e).1, 0) else ([], 150) := by
      rw [ToExtsD, e]; simp only [true_and]
    have hbad : ∀ {i : Nat}, i < L.length → (rdX (L.getD i edft)).2 = false → ([], (150 : Int)) = ToExtsD b := fun hi h => by
      rw [hD, if_neg]
      rintro ⟨h1, _⟩
      have := List.all_eq_true.1 h1 _ (gd_mem L edft _ hi)
      rw [h] at this; cases this
    refine ⟨fun y z => 0 ≤ y.1 ∧ y.1 ≤ L.length ∧ z.2.2.2.1 = L ∧ z.2.2.2.2.1 = (L.take y.1.toNat).map (fun e => (rdX e).1) ∧ ∀ x ∈ L.take y.1.toNat, (rdX x).2 = true, fun y _ => ((L.length : Int) - y.1).toNat, ⟨Int.le_refl 0, by simp only; omega, rfl, by simp, by simp⟩, ?_⟩
    rintro ⟨i, _⟩ ⟨⟨z1, _⟩, z2, ⟨z3, _⟩, row, acc, oth, _⟩ _ _ ⟨h0, h1, h2, h3, h4⟩
    simp only at h0 h1 h2 h3 h4 ⊢
    simp only [h2]
    have hal : acc.length = i.toNat := by rw [h3, List.length_map, List.length_take]; omega
    refine ⟨fun hi => ?_, fun hi => ?_⟩
    . have hmem := gd_mem L edft i.toNat (by omega)
      have hml := hLl.2 _ hmem
      have hbd := hbad (i := i.toNat) (by omega)
      refine ⟨⟨h0, hi⟩, by decide, fun _ h48 => ?_, fun _ _ h48 => ⟨by decide, hbd ?_⟩⟩
      . refine ⟨by show (L.getD i.toNat edft).2.length ≤ _; omega, ?_⟩
        rintro ⟨P, n, f, _⟩ _ e2
        simp only at e2 ⊢
        have e2' : (P, n, f) = allD (L.getD i.toNat edft).2 := e2
        have hR : rdX (L.getD i.toNat edft) = if f = 0 ∧ (partsX P).2 = true then ((partsX P).1, true) else (xdft, false) := by
          rw [rdX, ← e2']
          have h48' : (L.getD i.toNat edft).1 = 48 := h48
          simp only [h48', true_and]
        refine ⟨fun _ hf => ?_, fun _ _ hf => ⟨by decide, hbd (by rw [hR, if_neg (fun hc => hf hc.1)])⟩⟩
        have hR2 : (partsX P).2 = false → (rdX (L.getD i.toNat edft)).2 = false := fun hc => by rw [hR, if_neg (fun h => by rw [hc] at h; cases h.2)]
        refine ⟨?_, fun _ _ h6 => ⟨by decide, hbd (hR2 (by rw [partsX, if_neg (fun hc => by rw [h6] at hc; cases hc.1)]))⟩⟩
        rintro ⟨q, r, _⟩ _ e3
        simp only at e3 ⊢
        refine ⟨?_, fun _ _ h6 => ⟨by decide, hbd (hR2 (by rw [partsX, e3]; exact congrArg Prod.snd (if_neg (fun hc => by have := hc.2.1; rw [h6] at this; cases this))))⟩⟩
        rintro ⟨cr, s, _⟩ _ e4
        simp only at e4 ⊢
        refine ⟨?_, fun _ _ h6 => ⟨by decide, hbd (hR2 (by rw [partsX, e3]; simp only; rw [e4]; exact congrArg Prod.snd (if_neg (fun hc => by have := hc.2.2.1; rw [h6] at this; cases this))))⟩⟩
        rintro ⟨v, u, _⟩ _ e5
        simp only at e5 ⊢
        have hP : partsX P = if u = [] ∧ (lastO q extA).2 = true then (((lastO q extA).1, cr, v), true) else (xdft, false) := by
          rw [partsX, e3]; simp only
          rw [e4]; simp only
          rw [e5]; simp only [true_and]
        refine ⟨fun _ h7 => ?_, fun _ _ h7 => ⟨by decide, hbd (hR2 (by rw [hP, if_neg (fun hc => h7 (by rw [hc.1]; rfl))]))⟩⟩
        have hu : u = [] := List.length_eq_zero_iff.1 (by omega)
        refine ⟨?_, fun _ _ h8 => ⟨by decide, hbd (hR2 (by rw [hP, if_neg (fun hc => by have h8 : (lastO q extA).2 = false := h8; rw [h8] at hc; cases hc.2)]))⟩⟩
        rintro ⟨id, _⟩ _ e6
        simp only at e6 ⊢
        have e6' : lastO q extA = (id, true) := e6
        rw [if_pos ⟨hu, by rw [e6']⟩, e6'] at hP
        rw [hP, if_pos ⟨hf, rfl⟩] at hR
        rw [wrapM (i + 1) (by omega) (by omega)]
        refine ⟨by decide, by omega, by omega, ⟨by omega, by omega, trivial, ?_, ?_⟩, by omega⟩
        . rw [show (i + 1).toNat = i.toNat + 1 by omega, map_take _ L edft i.toNat (by omega), h3, hR]
        . rw [show (i + 1).toNat = i.toNat + 1 by omega]
          exact all_take edft (by omega) h4 (by rw [hR])
      . rw [rdX, if_neg (fun hc => h48 hc.1)]
    . rw [take_all (by omega)] at h3 h4
      have hall : (L.all fun e => (rdX e).2) = true := List.all_eq_true.2 h4
      rw [← h3, hall] at hD
      try refine ⟨by show acc.length ≤ _; omega, ?_⟩
      rintro ⟨y, _⟩ _ e2
      simp only at e2 ⊢
      refine ⟨fun _ hy => ?_, fun _ _ hy => ⟨by decide, ?_⟩⟩
      . rw [hD, if_pos ⟨rfl, e2.symm.trans hy⟩]
      . rw [hD, if_neg]
        rintro ⟨_, hc⟩
        rw [← e2, hy] at hc; cases hc
  . rw [ToExtsD, if_neg]
    rintro ⟨h1, _⟩
    rw [h] at h1; cases h1
theorem h26 : c_ext_Decode.ok Tryz.prog GL 26 := con_ok (H := {}) (mkEnv_ok (gl := GL) (l := [(70, i70)]) (q := []) (d := []) _ tyOk (by kernel_rfl) ⟨i70_ok, trivial⟩ trivial trivial) (by kernel_rfl) (by kernel_rfl) (Eq.mp e26 k26)
end Go.Proofs.YtiofbnlbfmbodaaGreatDoor
end
