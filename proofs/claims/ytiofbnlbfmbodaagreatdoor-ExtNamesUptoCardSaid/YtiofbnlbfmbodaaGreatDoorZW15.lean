/- Texts of a verified walk, led together: Law15wA, Law15wW, Law15nA, Law15nW, Glok12A, Glok12W. -/
import Derived.Test.YtiofbnlbfmbodaaGreatDoorZW14
import Derived.Test.YtiofbnlbfmbodaaGreatDoorZV21
import Derived.Test.YtiofbnlbfmbodaaGreatDoorRows
set_option linter.unusedVariables false
set_option linter.unusedSimpArgs false
section
namespace Go.Proofs.YtiofbnlbfmbodaaGreatDoor
open Go Go.Vc Go.Pl Go.Proofs
def c_law15_is : Con := { args := [.dat BY, .dat I64, .dat BY, .dat I64], res := [.dat .bool], pre := fun _ => True, post := fun x y => y.1 = (decide (x.1 = x.2.2.1) && decide (x.2.1 = x.2.2.2.1)) }
def c_law15_names : Con := { args := [], res := [.dat .bool], pre := fun _ => True, post := fun _ y => y.1 = true }
end Go.Proofs.YtiofbnlbfmbodaaGreatDoor
end
section
namespace Go.Proofs.YtiofbnlbfmbodaaGreatDoor
open Go Go.Vc Go.Pl Go.Proofs
set_option linter.unusedVariables false
set_option linter.unusedSimpArgs false
def t9 : Prop :=
  ∀ (x : List Int × Int × List Int × Int × Unit), (wyZ x.1 /\ wiZ x.2.1 /\ wyZ x.2.2.1 /\ wiZ x.2.2.2.1 /\ True) -> True -> (decide (x.1 = x.2.2.1) = true -> True) /\ (decide (x.1 = x.2.2.1)
  = true -> True) /\ (decide (x.1 = x.2.2.1) = true -> (decide (x.1 = x.2.2.1) == true) = true /\ (decide (x.1 = x.2.2.1) == true) = true /\ True) /\ (decide (x.1 = x.2.2.1) = true -> (decide
  (x.1 = x.2.2.1) == true) = true) /\ (bif decide (x.1 = x.2.2.1) then decide (x.2.1 = x.2.2.2.1) else false) = (decide (x.1 = x.2.2.1) && decide (x.2.1 = x.2.2.2.1))
theorem e9 : t9 = Con.vc c_law15_is GL (mkEnv ty [] [] [] [0, 1, 2, 3, 8]) {} Tryz.f9.ntmps Tryz.f9.results.toList (bodyOf Tryz.f9) := by kernel_rfl
theorem k9 : t9 := by
  unfold t9
  delta wyZ wiZ
  rintro ⟨x, e, w, b, _⟩ hx hp
  try dsimp +instances only [dft_int, dft_sl, dft_str]
  try simp only [true_and, and_true, eq_self_iff_true, implies_true, reduceCtorEq, false_implies, true_implies, decide_eq_true_eq, decide_eq_false_iff_not, beq_self_eq_true, Bool.not_eq_true', ne_eq, Decidable.not_not, List.nil_append, List.length_singleton, List.length_cons, List.length_nil, Nat.zero_add, Nat.add_zero, Nat.mul_one, and_self, beq_iff_eq, Bool.not_true, Bool.not_false, Bool.not_eq_false', Bool.cond_false_right, Bool.and_eq_true, imp_self, Bool.not_eq_true, Bool.cond_true_left, Bool.or_eq_true]
theorem h9 : c_law15_is.ok Tryz.prog GL 9 := con_ok (H := {}) (mkEnv_ok (gl := GL) (l := []) (q := []) (d := []) _ tyOk (by kernel_rfl) trivial trivial trivial) (by kernel_rfl) (by kernel_rfl) (Eq.mp e9 k9)
def t16 : Prop :=
  ∀ (x : Unit), True -> True -> (9 : Nat) <= q63 /\ (9 : Nat) = (9 : Nat) /\ (9 : Nat) = (9 : Nat) /\ (decide ((14 : Int) = (14 : Int)) && (decide ((15 : Int) = (15 : Int)) && (decide ((17 :
  Int) = (17 : Int)) && (decide (q113 = q113) && (decide ((20 : Int) = (20 : Int)) && (decide ((21 : Int) = (21 : Int)) && (decide ((30 : Int) = (30 : Int)) && (decide ((35 : Int) = (35 :
  Int)) && (decide ((37 : Int) = (37 : Int)) && true))))))))) = true
theorem e16 : t16 = Con.vc c_law15_names GL (mkEnv ty [] [] [] [0, 1]) {} Tryz.f16.ntmps Tryz.f16.results.toList (bodyOf Tryz.f16) := by kernel_rfl
theorem k16 : t16 := by
  unfold t16
  delta q63 q113
  intro _ _ _
  first | rfl | decide
theorem h16 : c_law15_names.ok Tryz.prog GL 16 := con_ok (H := {}) (mkEnv_ok (gl := GL) (l := []) (q := []) (d := []) _ tyOk (by kernel_rfl) trivial trivial trivial) (by kernel_rfl) (by kernel_rfl) (Eq.mp e16 k16)
noncomputable def i10 : CallSem := vcFn (mkEnv ty [] [] [] [0, 2]) {} Tryz.f10.ntmps Tryz.f10.results.toList (bodyOf Tryz.f10)
theorem i10_ok : CallOk Tryz.prog GL 10 i10 := inl_ok {} (mkEnv_ok (gl := GL) (l := []) (q := []) (d := []) _ tyOk (by kernel_rfl) trivial trivial trivial) (by kernel_rfl) (by kernel_rfl)
noncomputable def i14 : CallSem := vcFn (mkEnvO ty [] [] [] [0, 1, 4] [1000000]) {} Tryz.f14.ntmps Tryz.f14.results.toList (bodyOf Tryz.f14)
theorem i14_ok : CallOk Tryz.prog GL 14 i14 := inlO_ok {} (mkEnvO_ok (gl := GL) (l := []) (q := []) (d := []) _ [1000000] tyOk (by kernel_rfl) trivial trivial trivial) (by kernel_rfl) (by kernel_rfl)
end Go.Proofs.YtiofbnlbfmbodaaGreatDoor
end
section
namespace Go.Proofs.YtiofbnlbfmbodaaGreatDoor
open Go Go.Vc Go.Pl Go.Proofs
def c_law15_ExtNames : Con := { args := [.dat (.sl GK), .dat (.sl I64), .dat BY], res := [.dat .bool], pre := fun x => ABulk [.dat (.sl GK), .dat (.sl I64), .dat BY] x ≤ 1048576, post := fun _ y => y.1 = true }
end Go.Proofs.YtiofbnlbfmbodaaGreatDoor
end
section
namespace Go.Proofs.YtiofbnlbfmbodaaGreatDoor
open Go Go.Vc Go.Pl Go.Proofs
set_option maxHeartbeats 8000000
set_option maxRecDepth 20000
set_option linter.unusedVariables false
set_option linter.unusedSimpArgs false
abbrev q465 (p0 : q27) (p1 : q9) := (List.getD p0.1 (q475 p1) q489)
abbrev q358 (p0 : q27) (p1 : q9) (p2 : q27) := (!(decide ((q465 p0 p1).1 = (q465 p2 p1).1) && decide ((q465 p0 p1).2 = (q465 p2 p1).2)))
abbrev q466 (p0 : q27) (p1 : q27) (p2 : q0) (p3 : q0) := (bif bif decide (p0.2.1 ≠ p1.2.1) then true else decide (p2.2.1 ≠ p3.2.1) then true else decide ((lnZ p0.1) ≠ (lnZ p1.1)))
abbrev q359 (p0 : q27) (p1 : q27) (p2 : q0) (p3 : q0) := ((q466 p0 p1 p2 p3) = false -> ((q466 p0 p1 p2 p3) == false) = true /\ True)
abbrev q418 (p0 : q27) (p1 : q27) (p2 : q0) (p3 : q0) := ((bif decide (p0.2.1 ≠ p1.2.1) then true else decide (p2.2.1 ≠ p3.2.1)) == false)
abbrev q360 (p0 : q27) (p1 : q27) (p2 : q0) (p3 : q0) := ((bif decide (p0.2.1 ≠ p1.2.1) then true else decide (p2.2.1 ≠ p3.2.1)) = false -> (q418 p0 p1 p2 p3) = true /\ True)
abbrev q361 (p0 : q27) (p1 : q27) (p2 : q0) (p3 : q0) := (bif bif bif decide (p0.2.1 ≠ p1.2.1) then true else decide (p2.2.1 ≠ p3.2.1) then true else decide ((lnZ p0.1) ≠ (lnZ p1.1)) then
  true else decide ((lnZ p2.1) ≠ (lnZ p3.1)))
abbrev q362 (p0 : List (Int × List Int) × List Int × List Int × Unit) := (List.take (Int.toNat (wrZ ((lnZ p0.2.2.1) + q412)) - q391) (List.drop q391 ([] ++ p0.2.2.1 ++ [q373])) = p0.2.2.1
  ++ bs { data := #[(90 : UInt8)] })
abbrev q363 (p0 : q27) (p1 : q27) (p2 : q0) (p3 : q0) := ((q466 p0 p1 p2 p3) == false)
abbrev q364 (p0 : q27) (p1 : q27) (p2 : q0) (p3 : q0) := (bif bif decide (p0.2.1 ≠ p1.2.1) then true else decide (p2.2.1 ≠ p3.2.1) then true else decide ((lnZ p0.1) ≠ (lnZ p1.1)))
abbrev q365 (p0 : List (Int × List Int) × List Int × List Int × Unit) := (List.take (Int.toNat (lnZ p0.2.2.1) - q391) (List.drop q391 ([] ++ p0.2.2.1 ++ [q373])))
abbrev q366 (p0 : q27) (p1 : q27) (p2 : q0) (p3 : q0) := (bif decide (p0.2.1 ≠ p1.2.1) then true else decide (p2.2.1 ≠ p3.2.1))
def t4 : Prop :=
  ∀ (x : List q189 × List Int × List Int × Unit), (Kd.wf q250 x.1 /\ Kd.wf q203 x.2.1 /\ wyZ x.2.2.1 /\ True) -> ABulk [AK.dat q250, AK.dat q203, AK.dat q192] x <= (1048576 : Nat) -> q65 <
  q67 /\ (q65 + List.length x.1) * (24 : Nat) <= q153 /\ q65 + List.length x.1 <= q152 /\ lenG ([] ++ x.1) <= q333 /\ (∀ (y : q0), (q218 y) -> (y.1, y.2.1) = NamesD ([] ++ x.1) -> lenG x.1 <=
  q333 /\ (∀ (y_1 : q0), (q218 y_1) -> (y_1.1, y_1.2.1) = NamesD x.1 -> q65 < q36 /\ (q65 + List.length x.2.1) * q369 <= q153 /\ q65 + List.length x.2.1 <= q152 /\ True /\ (∀ (y_2 : q0),
  (q218 y_2) -> (y_2.1, y_2.2.1) = PurposesD ([] ++ x.2.1) -> True /\ (∀ (y_3 : q0), (q218 y_3) -> (y_3.1, y_3.2.1) = PurposesD x.2.1 -> True /\ (∀ (y_4 : q4), (q41 y_4) -> y_4.1 = (decide
  (y.1 = y_1.1) && decide (y.2.1 = y_1.2.1)) -> ((!y_4.1) = false -> True) /\ ((!y_4.1) = false -> True) /\ ((!y_4.1) = false -> True) /\ ((!y_4.1) = false -> True) /\ ((!y_4.1) = false ->
  ((!y_4.1) == false) = true /\ ((!y_4.1) == false) = true /\ ((!y_4.1) == false) = true /\ ((!y_4.1) == false) = true /\ True /\ (∀ (y_5 : q4), (q41 y_5) -> y_5.1 = (decide (y_2.1 = y_3.1)
  && decide (y_2.2.1 = y_3.2.1)) -> ((!y_5.1) = true -> false = true) /\ ((!y_5.1) = false -> q65 < q36 /\ (q65 + List.length x.2.2.1) * q36 <= q153 /\ q65 + List.length x.2.2.1 <= q152 /\
  q65 < q36 /\ (List.length ([] ++ x.2.2.1) + q36) * q36 <= q153 /\ List.length ([] ++ x.2.2.1) + q36 <= q152 /\ (q34 <= (lnZ x.2.2.1) /\ (lnZ x.2.2.1) <= (lnZ ([] ++ x.2.2.1 ++ [q373]))) /\
  lenB (q365 x) <= q333 /\ (∀ (y_6 : q27), (q325 y_6) -> (y_6.1, y_6.2.1) = ToNamesD (q365 x) -> lenB x.2.2.1 <= q333 /\ (∀ (y_7 : q27), (q325 y_7) -> (y_7.1, y_7.2.1) = ToNamesD x.2.2.1 ->
  lenB (q365 x) <= q333 /\ (∀ (y_8 : q0), (q266 y_8) -> (y_8.1, y_8.2.1) = ToPurposesD (q365 x) -> lenB x.2.2.1 <= q333 /\ (∀ (y_9 : q0), (q266 y_9) -> (y_9.1, y_9.2.1) = ToPurposesD x.2.2.1
  -> (decide (y_6.2.1 ≠ y_7.2.1) = false -> True) /\ (decide (y_6.2.1 ≠ y_7.2.1) = false -> True) /\ (decide (y_6.2.1 ≠ y_7.2.1) = false -> (decide (y_6.2.1 ≠ y_7.2.1) == false) = true /\
  (decide (y_6.2.1 ≠ y_7.2.1) == false) = true /\ True) /\ (decide (y_6.2.1 ≠ y_7.2.1) = false -> (decide (y_6.2.1 ≠ y_7.2.1) == false) = true) /\ ((q366 y_6 y_7 y_8 y_9) = false -> True) /\
  (q360 y_6 y_7 y_8 y_9) /\ ((q366 y_6 y_7 y_8 y_9) = false -> True) /\ (q360 y_6 y_7 y_8 y_9) /\ ((q366 y_6 y_7 y_8 y_9) = false -> (q418 y_6 y_7 y_8 y_9) = true /\ (q418 y_6 y_7 y_8 y_9) =
  true /\ True) /\ ((q366 y_6 y_7 y_8 y_9) = false -> (q418 y_6 y_7 y_8 y_9) = true) /\ ((q364 y_6 y_7 y_8 y_9) = false -> True) /\ (q359 y_6 y_7 y_8 y_9) /\ ((q364 y_6 y_7 y_8 y_9) = false
  -> True) /\ (q359 y_6 y_7 y_8 y_9) /\ ((q364 y_6 y_7 y_8 y_9) = false -> (q363 y_6 y_7 y_8 y_9) = true /\ (q363 y_6 y_7 y_8 y_9) = true /\ True) /\ ((q364 y_6 y_7 y_8 y_9) = false -> (q363
  y_6 y_7 y_8 y_9) = true) /\ ((q361 y_6 y_7 y_8 y_9) = true -> false = true) /\ ((q361 y_6 y_7 y_8 y_9) = false -> ∃ (I : q7), ∃ (μ : q8), (Value.bool false = Value.bool false /\ y_9.2.1 =
  y_9.2.1 /\ y_9.1 = y_9.1 /\ y_8.2.1 = y_8.2.1 /\ y_7.2.1 = y_7.2.1 /\ y_7.1 = y_7.1 /\ y_6.2.1 = y_6.2.1 /\ q65 = q65 /\ Int.toNat (lnZ x.2.2.1) - q65 = Int.toNat (lnZ x.2.2.1) - q65 /\
  Value.bool false = Value.bool false /\ x.1 = x.1 /\ x.2.1 = x.2.1 /\ x.2.2.1 = x.2.2.1 /\ y.1 = y.1 /\ y_1.1 = y_1.1 /\ y_2.1 = y_2.1 /\ y_3.1 = y_3.1 /\ [] ++ x.2.2.1 ++ [q373] = [] ++
  x.2.2.1 ++ [q373] /\ y_6.1 = y_6.1 /\ y_8.1 = y_8.1 /\ I (q34, false, ()) ()) /\ ∀ (y_10 : q9) (z : Unit), (q78 y_10) -> True -> I y_10 z -> (decide (y_10.1 < (lnZ y_6.1)) = true -> (q34 <=
  y_10.1 /\ y_10.1 < (lnZ y_6.1)) /\ (q34 <= y_10.1 /\ y_10.1 < (lnZ y_7.1)) /\ ((q358 y_6 y_10 y_7) = true -> false = true) /\ ((q358 y_6 y_10 y_7) = false -> Value.bool false = Value.bool
  false /\ y_9.2.1 = y_9.2.1 /\ y_9.1 = y_9.1 /\ y_8.2.1 = y_8.2.1 /\ y_7.2.1 = y_7.2.1 /\ y_7.1 = y_7.1 /\ y_6.2.1 = y_6.2.1 /\ q65 = q65 /\ Int.toNat (lnZ x.2.2.1) - q65 = Int.toNat (lnZ
  x.2.2.1) - q65 /\ Value.bool false = Value.bool false /\ x.1 = x.1 /\ x.2.1 = x.2.1 /\ x.2.2.1 = x.2.2.1 /\ y.1 = y.1 /\ y_1.1 = y_1.1 /\ y_2.1 = y_2.1 /\ y_3.1 = y_3.1 /\ [] ++ x.2.2.1 ++
  [q373] = [] ++ x.2.2.1 ++ [q373] /\ y_6.1 = y_6.1 /\ y_8.1 = y_8.1 /\ I (wrZ (q80 y_10), y_10.2.1, ()) () /\ μ (wrZ (q80 y_10), y_10.2.1, ()) () < μ y_10 z)) /\ (decide (y_10.1 < (lnZ
  y_6.1)) = false -> ∃ (I : q7), ∃ (μ : q8), (Value.bool false = Value.bool false /\ y_10.1 = y_10.1 /\ Value.bool false = Value.bool false /\ y_9.2.1 = y_9.2.1 /\ y_9.1 = y_9.1 /\ y_8.2.1 =
  y_8.2.1 /\ y_7.2.1 = y_7.2.1 /\ y_7.1 = y_7.1 /\ y_6.2.1 = y_6.2.1 /\ q65 = q65 /\ Int.toNat (lnZ x.2.2.1) - q65 = Int.toNat (lnZ x.2.2.1) - q65 /\ Value.bool false = Value.bool false /\
  x.1 = x.1 /\ x.2.1 = x.2.1 /\ x.2.2.1 = x.2.2.1 /\ y.1 = y.1 /\ y_1.1 = y_1.1 /\ y_2.1 = y_2.1 /\ y_3.1 = y_3.1 /\ [] ++ x.2.2.1 ++ [q373] = [] ++ x.2.2.1 ++ [q373] /\ y_6.1 = y_6.1 /\
  y_8.1 = y_8.1 /\ I (q34, y_10.2.1, ()) ()) /\ ∀ (y_11 : q9) (z : Unit), (q78 y_11) -> True -> I y_11 z -> (decide (y_11.1 < (lnZ y_8.1)) = true -> (q34 <= y_11.1 /\ y_11.1 < (lnZ y_8.1)) /\
  (q34 <= y_11.1 /\ y_11.1 < (lnZ y_9.1)) /\ (decide (List.getD y_8.1 (q112 y_11) q215 ≠ List.getD y_9.1 (q112 y_11) q215) = true -> false = true) /\ (decide (List.getD y_8.1 (q112 y_11) q215
  ≠ List.getD y_9.1 (q112 y_11) q215) = false -> Value.bool false = Value.bool false /\ y_10.1 = y_10.1 /\ Value.bool false = Value.bool false /\ y_9.2.1 = y_9.2.1 /\ y_9.1 = y_9.1 /\ y_8.2.1
  = y_8.2.1 /\ y_7.2.1 = y_7.2.1 /\ y_7.1 = y_7.1 /\ y_6.2.1 = y_6.2.1 /\ q65 = q65 /\ Int.toNat (lnZ x.2.2.1) - q65 = Int.toNat (lnZ x.2.2.1) - q65 /\ Value.bool false = Value.bool false /\
  x.1 = x.1 /\ x.2.1 = x.2.1 /\ x.2.2.1 = x.2.2.1 /\ y.1 = y.1 /\ y_1.1 = y_1.1 /\ y_2.1 = y_2.1 /\ y_3.1 = y_3.1 /\ [] ++ x.2.2.1 ++ [q373] = [] ++ x.2.2.1 ++ [q373] /\ y_6.1 = y_6.1 /\
  y_8.1 = y_8.1 /\ I (wrZ (q80 y_11), y_11.2.1, ()) () /\ μ (wrZ (q80 y_11), y_11.2.1, ()) () < μ y_11 z)) /\ (decide (y_11.1 < (lnZ y_8.1)) = false -> (q34 <= wrZ ((lnZ x.2.2.1) + q66) /\
  wrZ ((lnZ x.2.2.1) + q66) <= (lnZ ([] ++ x.2.2.1 ++ [q373]) - q65)) /\ List.length x.2.2.1 + q36 <= q152 /\ (decide (q362 x) = true -> True /\ (∀ (y : q5), (q154 y) -> y.1 = SubjectD [q34,
  q34, q34, q34, q34, q34, q34, q34, q34, q34, q34, q34, q34, q34, q34, q34, q34, q34, q34, q34] -> (decide ((lnZ y.1) = (22 : Int)) = true -> True /\ (∀ (y : q4), (q41 y) -> y.1 = true ->
  y.1 = true) /\ True) /\ (decide ((lnZ y.1) = (22 : Int)) = !true -> false = true)) /\ True) /\ (decide (q362 x) = !true -> false = true))))) /\ True) /\ True) /\ True) /\ True)) /\ True) /\
  ((!y_4.1) = !false -> false = true)) /\ True) /\ True) /\ True) /\ True) /\ True
theorem e4 : t4 = Con.vc c_law15_ExtNames GL (mkEnvO ty [(17, conSem c_ext_Names), (18, conSem c_r15_Names), (19, conSem c_ext_Purposes), (20, conSem c_r15_Purposes), (9, conSem c_law15_is), (10, i10), (21, conSem c_ext_ToNames), (22, conSem c_r15_ToNames), (23, conSem c_ext_ToPurposes), (24, conSem c_r15_ToPurposes), (14, i14), (15, conSem c_ext_Subject), (16, conSem c_law15_names)] [] [] [0, 1, 2, 6, 7, 8, 9, 10, 11, 12, 13, 14, 15, 16, 17, 18, 19, 20, 21, 59, 103, 107, 118, 122, 133] [1000000]) {} Tryz.f4.ntmps Tryz.f4.results.toList (bodyOf Tryz.f4) := by kernel_rfl
theorem k4 : t4 := by
  unfold t4
  delta q189 q250 q203 wyZ q192 q65 q67 q153 q152 q333 q0 q218 q36 q369 q4 q41 q34 lnZ q373 q365 q27 q325 q266 q366 q360 q418 q364 q359 q363 q361 q7 q8 q9 q78 q358 wrZ q80 q112 q215 q66 q362 q5 q154 q410 q483 q474 wiZ wbZ q391 q443 q466 q465 q412 q475 q489
  rintro ⟨l, p, b, _⟩ hx hp
  obtain ⟨hl1, hl2, hpl, hbl⟩ := bulk_names hp
  clear hp
  try dsimp +instances only [dft_int, dft_sl, dft_str]
  simp only [true_and, and_true, eq_self_iff_true, implies_true, reduceCtorEq, false_implies, true_implies, decide_eq_true_eq, decide_eq_false_iff_not, beq_self_eq_true, Bool.not_eq_true', ne_eq, Decidable.not_not, List.nil_append, List.length_singleton, List.length_cons, List.length_nil, Nat.zero_add, Nat.add_zero, Nat.mul_one, and_self, beq_iff_eq, Bool.not_true, Bool.not_false, Bool.not_eq_false', Bool.cond_false_right, Bool.and_eq_true, imp_self, Bool.not_eq_true, Bool.cond_true_left, Bool.or_eq_true]
  have hl3 : (b ++ [(90 : Int)]).length = b.length + 1 := by simp
  have e0 : List.take ((b.length : Int).toNat - 0) (List.drop 0 (b ++ [90])) = b := by
    rw [List.drop_zero, show (b.length : Int).toNat - 0 = b.length by omega, List.take_left]
  have e1 : List.take ((IntKind.i64.wrap ((b.length : Int) + 1)).toNat - 0) (List.drop 0 (b ++ [90])) = b ++ bs { data := #[90] } := by
    rw [wrapM _ (by omega) (by omega), List.drop_zero, show ((b.length : Int) + 1).toNat - 0 = (b ++ [(90 : Int)]).length by rw [hl3]; omega, List.take_length]
    rfl
  have e2 : 0 ≤ IntKind.i64.wrap ((b.length : Int) + 1) := by rw [wrapM _ (by omega) (by omega)]; omega
  have e3 : IntKind.i64.wrap ((b.length : Int) + 1) ≤ (((b ++ [(90 : Int)]).length - 0 : Nat) : Int) := by rw [wrapM _ (by omega) (by omega), hl3]; omega
  have e3' : IntKind.i64.wrap ((b.length : Int) + 1) ≤ (((b ++ [(90 : Int)]).length : Nat) : Int) - ((0 : Nat) : Int) := by rw [wrapM _ (by omega) (by omega), hl3]; omega
  have hB : lenB b ≤ 2000000 := by show b.length ≤ _; omega
  have hG : lenG l ≤ 2000000 := by omega
  have hsub : ∀ (y : List Int × Unit), (Kd.int IntKind.u8).sl.wf y.fst → y.fst = SubjectD [0, 0, 0, 0, 0, 0, 0, 0, 0, 0, 0, 0, 0, 0, 0, 0, 0, 0, 0, 0] → ¬(y.fst.length : Int) = 22 → False := fun y _ e h => h (by rw [e]; decide)
  simp only [e0, e1]
  refine ⟨by decide, by omega, by omega, hG, ?_⟩
  rintro ⟨c, f, _⟩ _ q1
  simp only at q1 ⊢
  refine ⟨hG, ?_⟩
  rintro ⟨c', f', _⟩ _ q2
  simp only at q2 ⊢
  obtain ⟨rfl, rfl⟩ := Prod.mk.inj (q2.trans q1.symm)
  refine ⟨by decide, by omega, by omega, ?_⟩
  rintro ⟨d, g, _⟩ _ q3
  simp only at q3 ⊢
  rintro ⟨d', g', _⟩ _ q4
  simp only at q4 ⊢
  obtain ⟨rfl, rfl⟩ := Prod.mk.inj (q4.trans q3.symm)
  rintro ⟨o1, _⟩ _ q5
  simp only at q5 ⊢
  have q5 : o1 = true := by rw [q5]; simp
  subst q5
  refine ⟨fun _ => ⟨rfl, rfl, rfl, rfl, ?_⟩, fun h => by cases h⟩
  rintro ⟨o2, _⟩ _ q6
  simp only at q6 ⊢
  have q6 : o2 = true := by rw [q6]; simp
  subst q6
  refine ⟨fun h => (by cases h), fun _ => ⟨by decide, by omega, by omega, by decide, by omega, by omega, ⟨by omega, by rw [hl3]; omega⟩, hB, ?_⟩⟩
  rintro ⟨n, f1, _⟩ _ r1
  simp only at r1 ⊢
  refine ⟨hB, ?_⟩
  rintro ⟨n', f1', _⟩ _ r2
  simp only at r2 ⊢
  obtain ⟨rfl, rfl⟩ := Prod.mk.inj (r2.trans r1.symm)
  refine ⟨hB, ?_⟩
  rintro ⟨m, f2, _⟩ _ r3
  simp only at r3 ⊢
  refine ⟨hB, ?_⟩
  rintro ⟨m', f2', _⟩ _ r4
  simp only at r4 ⊢
  obtain ⟨rfl, rfl⟩ := Prod.mk.inj (r4.trans r3.symm)
  have hnl : n'.length ≤ 16 := names_few r2.symm
  have hml : m'.length ≤ 16 := purposes_few r4.symm
  refine ⟨fun h => by simp at h, fun _ => ?_⟩
  refine ⟨fun y _ => 0 ≤ y.1 ∧ y.1 ≤ n'.length, fun y _ => ((n'.length : Int) - y.1).toNat, ⟨Int.le_refl 0, by simp only; omega⟩, ?_⟩
  rintro ⟨i, w1, _⟩ _ _ ⟨h0, h1⟩
  simp only at h0 h1 ⊢
  refine ⟨fun hi => ⟨⟨h0, hi⟩, ⟨h0, hi⟩, fun h => by simp at h, fun _ => ?_⟩, fun hi => ?_⟩
  . rw [wrapM (i + 1) (by omega) (by omega)]
    exact ⟨⟨by omega, by omega⟩, by omega⟩
  . refine ⟨fun y _ => 0 ≤ y.1 ∧ y.1 ≤ m'.length, fun y _ => ((m'.length : Int) - y.1).toNat, ⟨Int.le_refl 0, by simp only; omega⟩, ?_⟩
    rintro ⟨j, w2, _⟩ _ _ ⟨g0, g1⟩
    simp only at g0 g1 ⊢
    refine ⟨fun hj => ⟨⟨g0, hj⟩, ⟨g0, hj⟩, fun h => h trivial, fun _ => ?_⟩, fun hj => ⟨⟨e2, by first | exact e3 | exact e3'⟩, by omega, fun _ => hsub, fun h => h trivial⟩⟩
    rw [wrapM (j + 1) (by omega) (by omega)]
    exact ⟨⟨by omega, by omega⟩, by omega⟩
theorem h4 : c_law15_ExtNames.ok Tryz.prog GL 4 := conO_ok (H := {}) (mkEnvO_ok (gl := GL) (l := [(17, conSem c_ext_Names), (18, conSem c_r15_Names), (19, conSem c_ext_Purposes), (20, conSem c_r15_Purposes), (9, conSem c_law15_is), (10, i10), (21, conSem c_ext_ToNames), (22, conSem c_r15_ToNames), (23, conSem c_ext_ToPurposes), (24, conSem c_r15_ToPurposes), (14, i14), (15, conSem c_ext_Subject), (16, conSem c_law15_names)]) (q := []) (d := []) _ [1000000] tyOk (by kernel_rfl) ⟨h17.call, h18.call, h19.call, h20.call, h9.call, i10_ok, h21.call, h22.call, h23.call, h24.call, i14_ok, h15.call, h16.call, trivial⟩ trivial trivial) (by kernel_rfl) (by kernel_rfl) (Eq.mp e4 k4)
end Go.Proofs.YtiofbnlbfmbodaaGreatDoor
end
section
namespace Go.Proofs.YtiofbnlbfmbodaaGreatDoor
open Go Go.Vc Go.Pl Go.Proofs
set_option maxRecDepth 100000 in
theorem glOk {w : World} (hL : laidMetH Tryz.prog [("unicode/utf8.acceptRanges", Rows.laid_unicode_utf8_acceptRanges), ("unicode/utf8.first", Rows.laid_unicode_utf8_first)] w) (hS : w.ShapedOpen Tryz.prog) : GlOk GL w (fun _ => False) := by
  have hL : laidMet Tryz.prog [("unicode/utf8.acceptRanges", Rows.laid_unicode_utf8_acceptRanges), ("unicode/utf8.first", Rows.laid_unicode_utf8_first)] w := hL
  have h0 := Lib.laidMet.reads hL (n := "unicode/utf8.first") (d := Rows.laid_unicode_utf8_first) (by simp)
  have h1 := Lib.laidMet.reads hL (n := "unicode/utf8.acceptRanges") (d := Rows.laid_unicode_utf8_acceptRanges) (by simp)
  obtain ⟨m, hm⟩ := Tryz.laysM219.s1_3 w hS
  have hm : w.cell? ⟨0, 0, none⟩ = some (.int .i64 m) := hm
  obtain ⟨fs, hs, hf, ho⟩ := pairB_eq (P := Tryz.prog) (e := 247) (k := .u8) (by kernel_rfl)
  have k0 := gl_ints (P := Tryz.prog) (w := w) (g := 1) (t := 245) (e := 5) (n := 256) (k := .u8) (zs := Lib.firstTab) (by kernel_rfl) (by kernel_rfl) (by kernel_rfl) (by kernel_rfl) (by kernel_rfl) (by kernel_rfl) (by kernel_rfl) (of_decide_eq_true (by kernel_rfl)) (by kernel_rfl) h0
  have k1 := gl_pairs (P := Tryz.prog) (w := w) (g := 2) (t := 248) (e := 247) (n := 16) (k := .u8) (zs := accTab) (by kernel_rfl) (by kernel_rfl) (by kernel_rfl) hs hf ho (by kernel_rfl) (by kernel_rfl) (by kernel_rfl) (of_decide_eq_true (by kernel_rfl)) (by kernel_rfl) (by kernel_rfl) h1
  intro g v hg
  rcases gl_cons hg with ⟨rfl, rfl⟩ | hg
  . exact k0
  rcases gl_cons hg with ⟨rfl, rfl⟩ | hg
  . exact k1
  obtain ⟨rfl, rfl⟩ := gl_one hg
  exact ⟨cell_lt hm, id, m, hm⟩
end Go.Proofs.YtiofbnlbfmbodaaGreatDoor
end
section
namespace Go.Proofs.YtiofbnlbfmbodaaGreatDoor
open Go Go.Vc Go.Pl Go.Proofs
end Go.Proofs.YtiofbnlbfmbodaaGreatDoor
end
