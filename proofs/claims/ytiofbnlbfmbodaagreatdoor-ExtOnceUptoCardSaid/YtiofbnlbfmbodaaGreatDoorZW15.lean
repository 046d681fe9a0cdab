/- Texts of a verified walk, led together: Law15wA, Law15wW, Law15oA, Law15oW, Glok12A, Glok12W. -/
import Derived.Test.YtiofbnlbfmbodaaGreatDoorZW14
import Derived.Test.YtiofbnlbfmbodaaGreatDoorZV21
import Derived.Test.YtiofbnlbfmbodaaGreatDoorRows
set_option linter.unusedVariables false
set_option linter.unusedSimpArgs false
section
namespace Go.Proofs.YtiofbnlbfmbodaaGreatDoor
open Go Go.Vc Go.Pl Go.Proofs
def c_law15_there : Con := { args := [], res := [.dat .bool], pre := fun _ => True, post := fun _ y => y.1 = true }
end Go.Proofs.YtiofbnlbfmbodaaGreatDoor
end
section
namespace Go.Proofs.YtiofbnlbfmbodaaGreatDoor
open Go Go.Vc Go.Pl Go.Proofs
set_option linter.unusedVariables false
set_option linter.unusedSimpArgs false
def t27 : Prop :=
  ∀ (x : Unit), True -> True -> True /\ (∀ (y : q5), (q96 y) -> y.1 = SubjectD [q62, q34, q34, q34, q34, q34, q34, q34, q34, q34, q34, q34, q34, q34, q34, q34, q34, q34, q34, q34] -> decide
  ((lnZ y.1) = (22 : Int)) = true) /\ True
theorem e27 : t27 = Con.vc c_law15_there GL (mkEnv ty [(15, conSem c_ext_Subject)] [] [] [0]) {} Tryz.f27.ntmps Tryz.f27.results.toList (bodyOf Tryz.f27) := by kernel_rfl
theorem k27 : t27 := by
  unfold t27
  delta q5 q96 q62 q34 lnZ wyZ
  rintro x hx hp
  try dsimp +instances only [dft_int, dft_sl, dft_str]
  try simp only [true_and, and_true, eq_self_iff_true, implies_true, reduceCtorEq, false_implies, true_implies, decide_eq_true_eq, decide_eq_false_iff_not, beq_self_eq_true, Bool.not_eq_true', ne_eq, Decidable.not_not, List.nil_append, List.length_singleton, List.length_cons, List.length_nil, Nat.zero_add, Nat.add_zero, Nat.mul_one, and_self, beq_iff_eq, Bool.not_true, Bool.not_false, Bool.not_eq_false', Bool.cond_false_right, Bool.and_eq_true, imp_self, Bool.not_eq_true, Bool.cond_true_left, Bool.or_eq_true]
  rintro ⟨y, _⟩ _ e
  simp only at e ⊢
  rw [e]
  decide
theorem h27 : c_law15_there.ok Tryz.prog GL 27 := con_ok (H := {}) (mkEnv_ok (gl := GL) (l := [(15, conSem c_ext_Subject)]) (q := []) (d := []) _ tyOk (by kernel_rfl) ⟨h15.call, trivial⟩ trivial trivial) (by kernel_rfl) (by kernel_rfl) (Eq.mp e27 k27)
end Go.Proofs.YtiofbnlbfmbodaaGreatDoor
end
section
namespace Go.Proofs.YtiofbnlbfmbodaaGreatDoor
open Go Go.Vc Go.Pl Go.Proofs
def c_law15_ExtOnce : Con := { args := [.dat BY], res := [.dat .bool], pre := fun x => ABulk [.dat BY] x ≤ 1048576, post := fun _ y => y.1 = true }
end Go.Proofs.YtiofbnlbfmbodaaGreatDoor
end
section
namespace Go.Proofs.YtiofbnlbfmbodaaGreatDoor
open Go Go.Vc Go.Pl Go.Proofs
set_option maxHeartbeats 8000000
set_option maxRecDepth 20000
set_option linter.unusedVariables false
set_option linter.unusedSimpArgs false
abbrev q27 := (Bool × Unit -> Unit × Unit -> Prop)
abbrev q28 := (Bool × Unit -> Unit × Unit × Unit -> Prop)
abbrev q411 (p0 : q4) (p1 : q5) (p2 : q5) := ((p0.1 = true -> True) /\ ((p0.1 = true -> (p0.1 == true) = true) /\ (((bif p0.1 then decide (p1.1 = p2.1) else false) = true -> True /\ (∀ (y :
  q4), (wbZ y.1 /\ True) -> y.1 = true -> y.1 = true /\ True) /\ True) /\ ((bif p0.1 then decide (p1.1 = p2.1) else false) = !true -> false = true /\ True)) /\ True) /\ True)
abbrev q412 (p0 : q4) := ((((p0.1 = true -> True) /\ ((p0.1 = true -> (p0.1 == true) = true) /\ (((bif p0.1 then true else false) = true -> True /\ (∀ (y : q4), (wbZ y.1 /\ True) -> y.1 =
  true -> y.1 = true /\ True) /\ True) /\ ((bif p0.1 then true else false) = !true -> false = true /\ True)) /\ True) /\ True) /\ True) /\ True)
abbrev q316 (p0 : q4) (p1 : q0) (p2 : q5) := (((p0.1 == true && p0.1 == true) = true -> decide (p1.2.1 ≠ q332) = false -> (p0.1 == true && p0.1 == true && decide (p1.2.1 ≠ q332) == false) =
  true /\ True /\ (∀ (y_9 : q5), (wyZ y_9.1 /\ True) -> y_9.1 = IssuerD p1.1 -> (((p0.1 == true && p0.1 == true && decide (p1.2.1 ≠ q332) == false) = true /\ (q411 p0 y_9 p2) /\ True) /\
  True) /\ True) /\ True) /\ ((p0.1 == true && p0.1 == true) = true -> decide (p1.2.1 ≠ q332) = !false -> (q412 p0) /\ True) /\ ((p0.1 == true && p0.1 == true) = false -> ((((p0.1 = true ->
  False) /\ (p0.1 = !true -> ((false = true /\ True) /\ True) /\ True)) /\ True) /\ True) /\ True))
abbrev q317 (p0 : q4) (p1 : q5) (p2 : q5) := ((q411 p0 p1 p2) /\ True)
abbrev q318 (p0 : q4) := ((q412 p0) /\ True)
abbrev q414 (p0 : q4) (p1 : q0) := (bif p0.1 then decide (p1.2.1 = q421) else false)
abbrev q413 (p0 : q4) (p1 : q0) := ((bif p0.1 then decide (p1.2.1 = q421) else false) == true)
abbrev q319 (p0 : q4) (p1 : q0) := ((q414 p0 p1) = true -> (q413 p0 p1) = true /\ (q413 p0 p1) = true /\ True)
abbrev q320 (p0 : q4) (p1 : q0) := ((p0.1 == true && p0.1 == true) = true -> decide (p1.2.1 ≠ q332) = false -> (p0.1 == true && p0.1 == true && decide (p1.2.1 ≠ q332) == false) = true /\
  True)
abbrev q321 (p0 : q4) (p1 : q0) := ((q414 p0 p1) = true -> (q413 p0 p1) = true /\ True)
abbrev q322 (p0 : q4) (p1 : q0) := ((q414 p0 p1) = true -> (q413 p0 p1) = true)
abbrev q323 (p0 : q4) (p1 : q0) := ((p0.1 == true && p0.1 == true) = true -> decide (p1.2.1 ≠ q332) = false -> List.length p1.1 = (20 : Nat) /\ True)
abbrev q324 (p0 : q4) := (((((p0.1 = true -> False) /\ (p0.1 = !true -> ((false = true /\ True) /\ True) /\ True)) /\ True) /\ True) /\ True)
abbrev q325 (p0 : q4) (p1 : q0) := ((q414 p0 p1) = true -> True)
abbrev q326 (p0 : q4) (p1 : q0) := (p0.1 == true && p0.1 == true && decide (p1.2.1 ≠ q332) == false)
abbrev q327 (p0 : q4) := (p0.1 = true -> (p0.1 == true) = true /\ True)
abbrev q328 (p0 : q4) := (p0.1 = true -> (p0.1 == true) = true)
abbrev q329 (p0 : q4) := (p0.1 == true && p0.1 == true)
def t6 : Prop :=
  ∀ (x : q5), (q96 x) -> ABulk [AK.dat q275] x <= (1048576 : Nat) -> lenB x.1 <= q252 /\ (∀ (y : List q289 × Int × Unit), Kd.wf q287 y.1 /\ (wiZ y.2.1 /\ True) -> (y.1, y.2.1) = ToExtsD x.1
  -> ∃ (J : Bool × Unit -> Unit -> Prop), ((decide (y.2.1 = q34) = true -> lenX y.1 <= q252 /\ (∀ (y_1 : q0), (q135 y_1) -> (y_1.1, y_1.2.1) = ExtsD y.1 -> (decide (q247 y_1) = true -> True)
  /\ (q285 y_1) /\ (decide (q247 y_1) = true -> True) /\ (q285 y_1) /\ (q283 y_1) /\ (decide (q247 y_1) = true -> (decide (y_1.2.1 = q421) == true) = true) /\ y.2.1 = y.2.1 /\ y.1 = y.1 /\
  Value.bool false = Value.bool false /\ x.1 = x.1 /\ J (bif decide (q247 y_1) then decide (y_1.1 = x.1) else false, ()) ()) /\ True) /\ (decide (y.2.1 = q34) = false -> y.2.1 = y.2.1 /\ y.1
  = y.1 /\ Value.bool false = Value.bool false /\ x.1 = x.1 /\ J (true, ()) ())) /\ ∀ (u : q4) (z : Unit), (q41 u) -> True -> J u z -> lenB x.1 <= q252 /\ (∀ (y_1 : (Bool × Int) × Int ×
  Unit), (Kd.wf (Kd.pair Kd.bool q90) y_1.1 /\ wiZ y_1.2.1 /\ True) -> (y_1.1, y_1.2.1) = ToBasicD x.1 -> q65 <= q61 /\ ∃ (J : q27), ((decide (y_1.2.1 = q34) = true -> True /\ (∀ (y_2 : q0),
  (q135 y_2) -> (y_2.1, y_2.2.1) = BasicD (y_1.1.1, y_1.1.2) -> (q193 u) /\ (q327 u) /\ (q328 u) /\ (q325 u y_2) /\ (q321 u y_2) /\ (q325 u y_2) /\ (q321 u y_2) /\ (q319 u y_2) /\ (q322 u
  y_2) /\ y_1.2.1 = y_1.2.1 /\ y.1 = y.1 /\ Value.bool false = Value.bool false /\ x.1 = x.1 /\ y_1.1.1 = y_1.1.1 /\ y_1.1.2 = y_1.1.2 /\ J (bif bif u.1 then decide (q247 y_2) else false then
  decide (y_2.1 = x.1) else false, ()) ((), ())) /\ True) /\ (decide (y_1.2.1 = q34) = false -> y_1.2.1 = y_1.2.1 /\ y.1 = y.1 /\ Value.bool false = Value.bool false /\ x.1 = x.1 /\ y_1.1.1 =
  y_1.1.1 /\ y_1.1.2 = y_1.1.2 /\ J (u.1, ()) ((), ()))) /\ ∀ (u : q4) (z : Unit × Unit), (q41 u) -> True /\ True -> J u z -> lenB x.1 <= q252 /\ (∀ (y_2 : q6), (Kd.wf (Kd.int IntKind.u16)
  y_2.1 /\ wiZ y_2.2.1 /\ True) -> (y_2.1, y_2.2.1) = ToUsageD x.1 -> ∃ (J : q27), ((decide (q165 y_2) = true -> True /\ (∀ (y_3 : q0), (q135 y_3) -> (y_3.1, y_3.2.1) = UsageD y_2.1 -> (q193
  u) /\ (q327 u) /\ (q328 u) /\ (q325 u y_3) /\ (q321 u y_3) /\ (q325 u y_3) /\ (q321 u y_3) /\ (q319 u y_3) /\ (q322 u y_3) /\ y_2.2.1 = y_2.2.1 /\ y_2.1 = y_2.1 /\ y.1 = y.1 /\ Value.bool
  false = Value.bool false /\ x.1 = x.1 /\ y_1.1.1 = y_1.1.1 /\ y_1.1.2 = y_1.1.2 /\ J (bif bif u.1 then decide (q247 y_3) else false then decide (y_3.1 = x.1) else false, ()) ((), ())) /\
  True) /\ (decide (q165 y_2) = false -> y_2.2.1 = y_2.2.1 /\ y_2.1 = y_2.1 /\ y.1 = y.1 /\ Value.bool false = Value.bool false /\ x.1 = x.1 /\ y_1.1.1 = y_1.1.1 /\ y_1.1.2 = y_1.1.2 /\ J
  (u.1, ()) ((), ()))) /\ ∀ (u : q4) (z : Unit × Unit), (q41 u) -> True /\ True -> J u z -> lenB x.1 <= q252 /\ (∀ (y_3 : q0), (q162 y_3) -> (y_3.1, y_3.2.1) = ToPurposesD x.1 -> ∃ (J : q27),
  ((decide (q247 y_3) = true -> True /\ (∀ (y_4 : q0), (q135 y_4) -> (y_4.1, y_4.2.1) = PurposesD y_3.1 -> (q193 u) /\ (q327 u) /\ (q328 u) /\ (q325 u y_4) /\ (q321 u y_4) /\ (q325 u y_4) /\
  (q321 u y_4) /\ (q319 u y_4) /\ (q322 u y_4) /\ y_3.2.1 = y_3.2.1 /\ y_2.1 = y_2.1 /\ y.1 = y.1 /\ Value.bool false = Value.bool false /\ x.1 = x.1 /\ y_1.1.1 = y_1.1.1 /\ y_1.1.2 = y_1.1.2
  /\ y_3.1 = y_3.1 /\ J (bif bif u.1 then decide (q247 y_4) else false then decide (y_4.1 = x.1) else false, ()) ((), ())) /\ True) /\ (decide (q247 y_3) = false -> y_3.2.1 = y_3.2.1 /\ y_2.1
  = y_2.1 /\ y.1 = y.1 /\ Value.bool false = Value.bool false /\ x.1 = x.1 /\ y_1.1.1 = y_1.1.1 /\ y_1.1.2 = y_1.1.2 /\ y_3.1 = y_3.1 /\ J (u.1, ()) ((), ()))) /\ ∀ (u : q4) (z : Unit ×
  Unit), (q41 u) -> True /\ True -> J u z -> lenB x.1 <= q252 /\ (∀ (y_4 : q20), (Kd.wf q169 y_4.1 /\ wiZ y_4.2.1 /\ True) -> (y_4.1, y_4.2.1) = ToNamesD x.1 -> ∃ (J : q27), ((decide (y_4.2.1
  = q34) = true -> lenG y_4.1 <= q252 /\ (∀ (y_5 : q0), (q135 y_5) -> (y_5.1, y_5.2.1) = NamesD y_4.1 -> (q193 u) /\ (q327 u) /\ (q328 u) /\ (q325 u y_5) /\ (q321 u y_5) /\ (q325 u y_5) /\
  (q321 u y_5) /\ (q319 u y_5) /\ (q322 u y_5) /\ y_4.2.1 = y_4.2.1 /\ y_2.1 = y_2.1 /\ y.1 = y.1 /\ Value.bool false = Value.bool false /\ x.1 = x.1 /\ y_1.1.1 = y_1.1.1 /\ y_1.1.2 = y_1.1.2
  /\ y_3.1 = y_3.1 /\ y_4.1 = y_4.1 /\ J (bif bif u.1 then decide (q247 y_5) else false then decide (y_5.1 = x.1) else false, ()) ((), ())) /\ True) /\ (decide (y_4.2.1 = q34) = false ->
  y_4.2.1 = y_4.2.1 /\ y_2.1 = y_2.1 /\ y.1 = y.1 /\ Value.bool false = Value.bool false /\ x.1 = x.1 /\ y_1.1.1 = y_1.1.1 /\ y_1.1.2 = y_1.1.2 /\ y_3.1 = y_3.1 /\ y_4.1 = y_4.1 /\ J (u.1,
  ()) ((), ()))) /\ ∀ (u : q4) (z : Unit × Unit), (q41 u) -> True /\ True -> J u z -> lenB x.1 <= q252 /\ (∀ (y_5 : (List q127 × List q127) × Int × Unit), (Kd.wf q303 y_5.1 /\ wiZ y_5.2.1 /\
  True) -> (y_5.1, y_5.2.1) = ToTreesD x.1 -> q65 <= q61 /\ ∃ (J : q28), ((decide (y_5.2.1 = q34) = true -> (lenG y_5.1.1 <= q252 /\ lenG y_5.1.2 <= q252) /\ (∀ (y_6 : q0), (q135 y_6) ->
  (y_6.1, y_6.2.1) = TreesD (y_5.1.1, y_5.1.2) -> (q193 u) /\ (q327 u) /\ (q328 u) /\ (q325 u y_6) /\ (q321 u y_6) /\ (q325 u y_6) /\ (q321 u y_6) /\ (q319 u y_6) /\ (q322 u y_6) /\ y_5.2.1 =
  y_5.2.1 /\ y_2.1 = y_2.1 /\ y.1 = y.1 /\ Value.bool false = Value.bool false /\ x.1 = x.1 /\ y_1.1.1 = y_1.1.1 /\ y_1.1.2 = y_1.1.2 /\ y_3.1 = y_3.1 /\ y_4.1 = y_4.1 /\ y_5.1.1 = y_5.1.1 /\
  y_5.1.2 = y_5.1.2 /\ J (bif bif u.1 then decide (q247 y_6) else false then decide (y_6.1 = x.1) else false, ()) ((), (), ())) /\ True) /\ (decide (y_5.2.1 = q34) = false -> y_5.2.1 =
  y_5.2.1 /\ y_2.1 = y_2.1 /\ y.1 = y.1 /\ Value.bool false = Value.bool false /\ x.1 = x.1 /\ y_1.1.1 = y_1.1.1 /\ y_1.1.2 = y_1.1.2 /\ y_3.1 = y_3.1 /\ y_4.1 = y_4.1 /\ y_5.1.1 = y_5.1.1 /\
  y_5.1.2 = y_5.1.2 /\ J (u.1, ()) ((), (), ()))) /\ ∀ (u : q4) (z : Unit × Unit × Unit), (q41 u) -> True /\ True /\ True -> J u z -> lenB x.1 <= q252 /\ (∀ (y_6 : q6), (q101 y_6) -> (y_6.1,
  y_6.2.1) = ToNumberD x.1 -> ∃ (J : q28), ((decide (q165 y_6) = true -> True /\ (∀ (y_7 : q0), (q135 y_7) -> (y_7.1, y_7.2.1) = NumberD y_6.1 -> (q193 u) /\ (q327 u) /\ (q328 u) /\ (q325 u
  y_7) /\ (q321 u y_7) /\ (q325 u y_7) /\ (q321 u y_7) /\ (q319 u y_7) /\ (q322 u y_7) /\ y_6.2.1 = y_6.2.1 /\ y_6.1 = y_6.1 /\ y_2.1 = y_2.1 /\ y.1 = y.1 /\ Value.bool false = Value.bool
  false /\ x.1 = x.1 /\ y_1.1.1 = y_1.1.1 /\ y_1.1.2 = y_1.1.2 /\ y_3.1 = y_3.1 /\ y_4.1 = y_4.1 /\ y_5.1.1 = y_5.1.1 /\ y_5.1.2 = y_5.1.2 /\ J (bif bif u.1 then decide (q247 y_7) else false
  then decide (y_7.1 = x.1) else false, ()) ((), (), ())) /\ True) /\ (decide (q165 y_6) = false -> y_6.2.1 = y_6.2.1 /\ y_6.1 = y_6.1 /\ y_2.1 = y_2.1 /\ y.1 = y.1 /\ Value.bool false =
  Value.bool false /\ x.1 = x.1 /\ y_1.1.1 = y_1.1.1 /\ y_1.1.2 = y_1.1.2 /\ y_3.1 = y_3.1 /\ y_4.1 = y_4.1 /\ y_5.1.1 = y_5.1.1 /\ y_5.1.2 = y_5.1.2 /\ J (u.1, ()) ((), (), ()))) /\ ∀ (u :
  q4) (z : Unit × Unit × Unit), (q41 u) -> True /\ True /\ True -> J u z -> lenB x.1 <= q252 /\ (∀ (y_7 : q6), (q101 y_7) -> (y_7.1, y_7.2.1) = ToReasonD x.1 -> ∃ (J : q28), ((decide (q165
  y_7) = true -> True /\ (∀ (y_8 : q0), (q135 y_8) -> (y_8.1, y_8.2.1) = ReasonD y_7.1 -> (q193 u) /\ (q327 u) /\ (q328 u) /\ (q325 u y_8) /\ (q321 u y_8) /\ (q325 u y_8) /\ (q321 u y_8) /\
  (q319 u y_8) /\ (q322 u y_8) /\ y_7.2.1 = y_7.2.1 /\ y_7.1 = y_7.1 /\ y_2.1 = y_2.1 /\ y.1 = y.1 /\ Value.bool false = Value.bool false /\ x.1 = x.1 /\ y_1.1.1 = y_1.1.1 /\ y_1.1.2 =
  y_1.1.2 /\ y_3.1 = y_3.1 /\ y_4.1 = y_4.1 /\ y_5.1.1 = y_5.1.1 /\ y_5.1.2 = y_5.1.2 /\ J (bif bif u.1 then decide (q247 y_8) else false then decide (y_8.1 = x.1) else false, ()) ((), (),
  ())) /\ True) /\ (decide (q165 y_7) = false -> y_7.2.1 = y_7.2.1 /\ y_7.1 = y_7.1 /\ y_2.1 = y_2.1 /\ y.1 = y.1 /\ Value.bool false = Value.bool false /\ x.1 = x.1 /\ y_1.1.1 = y_1.1.1 /\
  y_1.1.2 = y_1.1.2 /\ y_3.1 = y_3.1 /\ y_4.1 = y_4.1 /\ y_5.1.1 = y_5.1.1 /\ y_5.1.2 = y_5.1.2 /\ J (u.1, ()) ((), (), ()))) /\ ∀ (u : q4) (z : Unit × Unit × Unit), (q41 u) -> True /\ True
  /\ True -> J u z -> lenB x.1 <= q252 /\ (∀ (y_8 : q0), (Kd.wf (Kd.arr (20 : Nat) q371) y_8.1 /\ wiZ y_8.2.1 /\ True) -> (y_8.1, y_8.2.1) = ToSubjectD x.1 -> q266 <= q61 /\ q266 = q266 /\ ∃
  (J : q28), (((q327 u) /\ ((q323 u y_8) /\ (((q329 u) = true -> decide (q164 y_8) = false -> (q326 u y_8) = true /\ True /\ (∀ (y_9 : q5), (q96 y_9) -> y_9.1 = SubjectD y_8.1 -> (((q326 u
  y_8) = true /\ (((q193 u) /\ ((q328 u) /\ y_8.2.1 = y_8.2.1 /\ y_7.1 = y_7.1 /\ y_2.1 = y_2.1 /\ y.1 = y.1 /\ Value.bool false = Value.bool false /\ x.1 = x.1 /\ y_1.1.1 = y_1.1.1 /\
  y_1.1.2 = y_1.1.2 /\ y_3.1 = y_3.1 /\ y_4.1 = y_4.1 /\ y_5.1.1 = y_5.1.1 /\ y_5.1.2 = y_5.1.2 /\ y_8.1 = y_8.1 /\ J (bif u.1 then decide (y_9.1 = x.1) else false, ()) ((), (), ())) /\ True)
  /\ True) /\ True) /\ True) /\ ((q326 u y_8) = true /\ ((((q193 u) /\ ((q328 u) /\ y_8.2.1 = y_8.2.1 /\ y_7.1 = y_7.1 /\ y_2.1 = y_2.1 /\ y.1 = y.1 /\ Value.bool false = Value.bool false /\
  x.1 = x.1 /\ y_1.1.1 = y_1.1.1 /\ y_1.1.2 = y_1.1.2 /\ y_3.1 = y_3.1 /\ y_4.1 = y_4.1 /\ y_5.1.1 = y_5.1.1 /\ y_5.1.2 = y_5.1.2 /\ y_8.1 = y_8.1 /\ J (bif u.1 then decide (y_9.1 = x.1) else
  false, ()) ((), (), ())) /\ True) /\ True) /\ True) /\ True) /\ True) /\ True) /\ ((q329 u) = true -> decide (q164 y_8) = !false -> (((((q193 u) /\ ((q328 u) /\ y_8.2.1 = y_8.2.1 /\ y_7.1 =
  y_7.1 /\ y_2.1 = y_2.1 /\ y.1 = y.1 /\ Value.bool false = Value.bool false /\ x.1 = x.1 /\ y_1.1.1 = y_1.1.1 /\ y_1.1.2 = y_1.1.2 /\ y_3.1 = y_3.1 /\ y_4.1 = y_4.1 /\ y_5.1.1 = y_5.1.1 /\
  y_5.1.2 = y_5.1.2 /\ y_8.1 = y_8.1 /\ J (bif u.1 then true else false, ()) ((), (), ())) /\ True) /\ True) /\ True) /\ True) /\ (((((q193 u) /\ ((q328 u) /\ y_8.2.1 = y_8.2.1 /\ y_7.1 =
  y_7.1 /\ y_2.1 = y_2.1 /\ y.1 = y.1 /\ Value.bool false = Value.bool false /\ x.1 = x.1 /\ y_1.1.1 = y_1.1.1 /\ y_1.1.2 = y_1.1.2 /\ y_3.1 = y_3.1 /\ y_4.1 = y_4.1 /\ y_5.1.1 = y_5.1.1 /\
  y_5.1.2 = y_5.1.2 /\ y_8.1 = y_8.1 /\ J (bif u.1 then true else false, ()) ((), (), ())) /\ True) /\ True) /\ True) /\ True) /\ True) /\ ((q329 u) = false -> (((((u.1 = true -> False) /\
  (u.1 = !true -> (y_8.2.1 = y_8.2.1 /\ y_7.1 = y_7.1 /\ y_2.1 = y_2.1 /\ y.1 = y.1 /\ Value.bool false = Value.bool false /\ x.1 = x.1 /\ y_1.1.1 = y_1.1.1 /\ y_1.1.2 = y_1.1.2 /\ y_3.1 =
  y_3.1 /\ y_4.1 = y_4.1 /\ y_5.1.1 = y_5.1.1 /\ y_5.1.2 = y_5.1.2 /\ y_8.1 = y_8.1 /\ J (false, ()) ((), (), ())) /\ True)) /\ True) /\ True) /\ True) /\ (((((u.1 = true -> False) /\ (u.1 =
  !true -> (y_8.2.1 = y_8.2.1 /\ y_7.1 = y_7.1 /\ y_2.1 = y_2.1 /\ y.1 = y.1 /\ Value.bool false = Value.bool false /\ x.1 = x.1 /\ y_1.1.1 = y_1.1.1 /\ y_1.1.2 = y_1.1.2 /\ y_3.1 = y_3.1 /\
  y_4.1 = y_4.1 /\ y_5.1.1 = y_5.1.1 /\ y_5.1.2 = y_5.1.2 /\ y_8.1 = y_8.1 /\ J (false, ()) ((), (), ())) /\ True)) /\ True) /\ True) /\ True) /\ True)) /\ ((q320 u y_8) /\ (((q329 u) = true
  -> decide (q164 y_8) = false -> (q326 u y_8) = true /\ True /\ (∀ (y_9 : q5), (q96 y_9) -> y_9.1 = SubjectD y_8.1 -> (((q326 u y_8) = true /\ ((q193 u) /\ ((q328 u) /\ y_8.2.1 = y_8.2.1 /\
  y_7.1 = y_7.1 /\ y_2.1 = y_2.1 /\ y.1 = y.1 /\ Value.bool false = Value.bool false /\ x.1 = x.1 /\ y_1.1.1 = y_1.1.1 /\ y_1.1.2 = y_1.1.2 /\ y_3.1 = y_3.1 /\ y_4.1 = y_4.1 /\ y_5.1.1 =
  y_5.1.1 /\ y_5.1.2 = y_5.1.2 /\ y_8.1 = y_8.1 /\ J (bif u.1 then decide (y_9.1 = x.1) else false, ()) ((), (), ())) /\ True) /\ True) /\ True) /\ True) /\ True) /\ ((q329 u) = true ->
  decide (q164 y_8) = !false -> ((((q193 u) /\ ((q328 u) /\ y_8.2.1 = y_8.2.1 /\ y_7.1 = y_7.1 /\ y_2.1 = y_2.1 /\ y.1 = y.1 /\ Value.bool false = Value.bool false /\ x.1 = x.1 /\ y_1.1.1 =
  y_1.1.1 /\ y_1.1.2 = y_1.1.2 /\ y_3.1 = y_3.1 /\ y_4.1 = y_4.1 /\ y_5.1.1 = y_5.1.1 /\ y_5.1.2 = y_5.1.2 /\ y_8.1 = y_8.1 /\ J (bif u.1 then true else false, ()) ((), (), ())) /\ True) /\
  True) /\ True) /\ True) /\ ((q329 u) = false -> ((((u.1 = true -> False) /\ (u.1 = !true -> (y_8.2.1 = y_8.2.1 /\ y_7.1 = y_7.1 /\ y_2.1 = y_2.1 /\ y.1 = y.1 /\ Value.bool false =
  Value.bool false /\ x.1 = x.1 /\ y_1.1.1 = y_1.1.1 /\ y_1.1.2 = y_1.1.2 /\ y_3.1 = y_3.1 /\ y_4.1 = y_4.1 /\ y_5.1.1 = y_5.1.1 /\ y_5.1.2 = y_5.1.2 /\ y_8.1 = y_8.1 /\ J (false, ()) ((),
  (), ())) /\ True)) /\ True) /\ True) /\ True)) /\ True) /\ True) /\ ((q320 u y_8) /\ ((q323 u y_8) /\ (((q329 u) = true -> decide (q164 y_8) = false -> (q326 u y_8) = true /\ True /\ (∀
  (y_9 : q5), (q96 y_9) -> y_9.1 = SubjectD y_8.1 -> (((q326 u y_8) = true /\ ((q193 u) /\ ((q328 u) /\ y_8.2.1 = y_8.2.1 /\ y_7.1 = y_7.1 /\ y_2.1 = y_2.1 /\ y.1 = y.1 /\ Value.bool false =
  Value.bool false /\ x.1 = x.1 /\ y_1.1.1 = y_1.1.1 /\ y_1.1.2 = y_1.1.2 /\ y_3.1 = y_3.1 /\ y_4.1 = y_4.1 /\ y_5.1.1 = y_5.1.1 /\ y_5.1.2 = y_5.1.2 /\ y_8.1 = y_8.1 /\ J (bif u.1 then
  decide (y_9.1 = x.1) else false, ()) ((), (), ())) /\ True) /\ True) /\ True) /\ True) /\ True) /\ ((q329 u) = true -> decide (q164 y_8) = !false -> ((((q193 u) /\ ((q328 u) /\ y_8.2.1 =
  y_8.2.1 /\ y_7.1 = y_7.1 /\ y_2.1 = y_2.1 /\ y.1 = y.1 /\ Value.bool false = Value.bool false /\ x.1 = x.1 /\ y_1.1.1 = y_1.1.1 /\ y_1.1.2 = y_1.1.2 /\ y_3.1 = y_3.1 /\ y_4.1 = y_4.1 /\
  y_5.1.1 = y_5.1.1 /\ y_5.1.2 = y_5.1.2 /\ y_8.1 = y_8.1 /\ J (bif u.1 then true else false, ()) ((), (), ())) /\ True) /\ True) /\ True) /\ True) /\ ((q329 u) = false -> ((((u.1 = true ->
  False) /\ (u.1 = !true -> (y_8.2.1 = y_8.2.1 /\ y_7.1 = y_7.1 /\ y_2.1 = y_2.1 /\ y.1 = y.1 /\ Value.bool false = Value.bool false /\ x.1 = x.1 /\ y_1.1.1 = y_1.1.1 /\ y_1.1.2 = y_1.1.2 /\
  y_3.1 = y_3.1 /\ y_4.1 = y_4.1 /\ y_5.1.1 = y_5.1.1 /\ y_5.1.2 = y_5.1.2 /\ y_8.1 = y_8.1 /\ J (false, ()) ((), (), ())) /\ True)) /\ True) /\ True) /\ True)) /\ True) /\ True) /\ True) /\
  True) /\ ∀ (u : q4) (z : Unit × Unit × Unit), (q41 u) -> True /\ True /\ True -> J u z -> lenB x.1 <= q252 /\ (∀ (y : q0), (Kd.wf (Kd.arr (20 : Nat) q371) y.1 /\ wiZ y.2.1 /\ True) -> (y.1,
  y.2.1) = ToIssuerD x.1 -> List.length y_8.1 = q266 /\ ((q327 u) /\ ((q323 u y) /\ (((q329 u) = true -> decide (q164 y) = false -> (q326 u y) = true /\ True /\ (∀ (y_9 : q5), (q96 y_9) ->
  y_9.1 = IssuerD y.1 -> (((q326 u y) = true /\ (q317 u y_9 x) /\ True) /\ True) /\ ((q326 u y) = true /\ ((q317 u y_9 x) /\ True) /\ True) /\ True) /\ True) /\ ((q329 u) = true -> decide
  (q164 y) = !false -> (q318 u) /\ (q318 u) /\ True) /\ ((q329 u) = false -> (q324 u) /\ (q324 u) /\ True)) /\ ((q320 u y) /\ (q316 u y x) /\ True) /\ True) /\ ((q320 u y) /\ ((q323 u y) /\
  (q316 u y x) /\ True) /\ True) /\ True) /\ True) /\ True) /\ True) /\ True) /\ True) /\ True) /\ True) /\ True) /\ True) /\ True) /\ True
theorem e6 : t6 = Con.vc c_law15_ExtOnce GL (mkEnvO ty [(26, conSem c_ext_Decode), (25, conSem c_ext_Encode), (28, conSem c_ext_ToBasic), (29, conSem c_ext_Basic), (30, conSem c_ext_ToUsage), (31, conSem c_ext_Usage), (23, conSem c_ext_ToPurposes), (19, conSem c_ext_Purposes), (21, conSem c_ext_ToNames), (17, conSem c_ext_Names), (11, conSem c_ext_ToTrees), (7, conSem c_ext_Trees), (32, conSem c_ext_ToNumber), (33, conSem c_ext_Number), (34, conSem c_ext_ToReason), (35, conSem c_ext_Reason), (36, conSem c_ext_ToSubject), (15, conSem c_ext_Subject), (37, conSem c_ext_ToIssuer), (38, conSem c_ext_Issuer), (27, conSem c_law15_there)] [] [] [0, 2, 3, 4, 5, 6, 7, 8, 9, 10, 11, 12, 13, 14, 15, 16, 17, 18, 19, 20, 21, 22, 23, 24, 25, 26, 27, 28, 35, 59, 83, 107, 131, 155, 179, 203] [1000000,3000028]) {joins := [6,10,14,18,22,26,30,34,36]} Tryz.f6.ntmps Tryz.f6.results.toList (bodyOf Tryz.f6) := by kernel_rfl
theorem k6 : t6 := by
  unfold t6
  delta q5 q96 q275 q252 q289 q287 wiZ q34 q0 q135 q247 q285 q283 q421 q4 q41 q90 q65 q61 q27 q193 q327 q328 q325 q321 q319 q322 q6 q165 q162 q20 q169 q127 q303 q28 q101 q371 q266 q323 q329 q164 q326 q320 q317 q318 q324 q316 wyZ q436 q332 wbZ q414 q413 q425 q388 q411 q412 q453 q451
  rintro ⟨b, _⟩ hx hp
  have hl := bulk_bytes hp
  have hw : Kd.wf BY b := hx.1
  have hb : Bys b := sl_bys hx.1
  have hI := insL_sum hb
  clear hp
  try dsimp +instances only [dft_int, dft_sl, dft_str]
  simp only [true_and, and_true, eq_self_iff_true, implies_true, reduceCtorEq, false_implies, true_implies, decide_eq_true_eq, decide_eq_false_iff_not, beq_self_eq_true, Bool.not_eq_true', ne_eq, Decidable.not_not, List.nil_append, List.length_singleton, List.length_cons, List.length_nil, Nat.zero_add, Nat.add_zero, Nat.mul_one, and_self, beq_iff_eq, Bool.not_true, Bool.not_false, Bool.not_eq_false', Bool.cond_false_right, Bool.and_eq_true, imp_self, Bool.not_eq_true, Bool.cond_true_left, Bool.or_eq_true]
  have hB : lenB b ≤ 2000000 := by show b.length ≤ _; omega
  refine ⟨hB, ?_⟩
  rintro ⟨l, e, _⟩ _ q1
  simp only at q1 ⊢
  refine ⟨fun u _ => u.1 = true, ⟨fun he => ?_, fun _ => rfl⟩, ?_⟩
  . subst he
    have k0 := exts_once hb q1.symm
    have k := k0.1
    have hm : l.length ≤ 16 := by
      by_cases h : mayX l = true
      . exact (mayX_args h).2.1
      . have k1 := k0.1
        unfold ExtsD at k1
        split at k1
        . have := (Prod.mk.inj k1).2; omega
        . simp_all
    refine ⟨by show l.length ≤ _; omega, ?_⟩
    rintro ⟨c, f, _⟩ _ q2
    simp only at q2 ⊢
    have q3 := q2.trans k
    simp only [Prod.mk.injEq] at q3
    obtain ⟨q4, q5⟩ := q3
    subst q5
    rw [q4]
    simp
  clear q1
  rintro ⟨ok, _⟩ _ _ hok
  simp only at hok ⊢
  subst hok
  refine ⟨hB, ?_⟩
  rintro ⟨⟨v1, v2⟩, e, _⟩ _ q1
  simp only at q1 ⊢
  refine ⟨by decide, fun u _ => u.1 = true, ⟨fun he => ?_, fun _ => rfl⟩, ?_⟩
  . subst he
    have k := basic_once (v := (v1, v2)) hw q1.symm
    rintro ⟨c, f, _⟩ _ q2
    simp only at q2 ⊢
    have q3 := q2.trans k
    simp only [Prod.mk.injEq] at q3
    obtain ⟨q4, q5⟩ := q3
    subst q5
    rw [q4]
    simp
  clear q1
  rintro ⟨ok, _⟩ _ _ hok
  simp only at hok ⊢
  subst hok
  refine ⟨hB, ?_⟩
  rintro ⟨n, e, _⟩ _ q1
  simp only at q1 ⊢
  refine ⟨fun u _ => u.1 = true, ⟨fun he => ?_, fun _ => rfl⟩, ?_⟩
  . subst he
    have k := usage_once hw q1.symm
    rintro ⟨c, f, _⟩ _ q2
    simp only at q2 ⊢
    have q3 := q2.trans k
    simp only [Prod.mk.injEq] at q3
    obtain ⟨q4, q5⟩ := q3
    subst q5
    rw [q4]
    simp
  clear q1
  rintro ⟨ok, _⟩ _ _ hok
  simp only at hok ⊢
  subst hok
  refine ⟨hB, ?_⟩
  rintro ⟨p, e, _⟩ _ q1
  simp only at q1 ⊢
  refine ⟨fun u _ => u.1 = true, ⟨fun he => ?_, fun _ => rfl⟩, ?_⟩
  . subst he
    have k := (purposes_once hb q1.symm).1
    rintro ⟨c, f, _⟩ _ q2
    simp only at q2 ⊢
    have q3 := q2.trans k
    simp only [Prod.mk.injEq] at q3
    obtain ⟨q4, q5⟩ := q3
    subst q5
    rw [q4]
    simp
  clear q1
  rintro ⟨ok, _⟩ _ _ hok
  simp only at hok ⊢
  subst hok
  refine ⟨hB, ?_⟩
  rintro ⟨g, e, _⟩ _ q1
  simp only at q1 ⊢
  refine ⟨fun u _ => u.1 = true, ⟨fun he => ?_, fun _ => rfl⟩, ?_⟩
  . subst he
    have k0 := names_once hb q1.symm
    have k := k0.1
    have hm : lenG g ≤ 2000000 := by
      have e1 : lenG ((insL b).map genE) = ((insL b).flatMap (·.2)).length := by simp [lenG, genE, List.flatMap_map]
      have := hI.1
      rw [k0.2, e1]; omega
    refine ⟨hm, ?_⟩
    rintro ⟨c, f, _⟩ _ q2
    simp only at q2 ⊢
    have q3 := q2.trans k
    simp only [Prod.mk.injEq] at q3
    obtain ⟨q4, q5⟩ := q3
    subst q5
    rw [q4]
    simp
  clear q1
  rintro ⟨ok, _⟩ _ _ hok
  simp only at hok ⊢
  subst hok
  refine ⟨hB, ?_⟩
  rintro ⟨⟨t1, t2⟩, e, _⟩ _ q1
  simp only at q1 ⊢
  refine ⟨by decide, fun u _ => u.1 = true, ⟨fun he => ?_, fun _ => rfl⟩, ?_⟩
  . subst he
    have k0 := trees_once (t := (t1, t2)) hb q1.symm
    have k := k0.1
    have hm : lenG t1 ≤ 2000000 ∧ lenG t2 ≤ 2000000 := by
      have e0 := Prod.mk.inj k0.2
      have a1 := guessP_sum (insL b) fun e he => (hI.2 e he).2
      have a2 := guessX_sum (insL b) fun e he => (hI.2 e he).2
      have a3 : lenEs (insL b) ≤ b.length := hI.1
      rw [e0.1, e0.2]; omega
    refine ⟨hm, ?_⟩
    rintro ⟨c, f, _⟩ _ q2
    simp only at q2 ⊢
    have q3 := q2.trans k
    simp only [Prod.mk.injEq] at q3
    obtain ⟨q4, q5⟩ := q3
    subst q5
    rw [q4]
    simp
  clear q1
  rintro ⟨ok, _⟩ _ _ hok
  simp only at hok ⊢
  subst hok
  refine ⟨hB, ?_⟩
  rintro ⟨n, e, _⟩ _ q1
  simp only at q1 ⊢
  refine ⟨fun u _ => u.1 = true, ⟨fun he => ?_, fun _ => rfl⟩, ?_⟩
  . subst he
    have k := number_once hw q1.symm
    rintro ⟨c, f, _⟩ _ q2
    simp only at q2 ⊢
    have q3 := q2.trans k
    simp only [Prod.mk.injEq] at q3
    obtain ⟨q4, q5⟩ := q3
    subst q5
    rw [q4]
    simp
  clear q1
  rintro ⟨ok, _⟩ _ _ hok
  simp only at hok ⊢
  subst hok
  refine ⟨hB, ?_⟩
  rintro ⟨n, e, _⟩ _ q1
  simp only at q1 ⊢
  refine ⟨fun u _ => u.1 = true, ⟨fun he => ?_, fun _ => rfl⟩, ?_⟩
  . subst he
    have k := reason_once hw q1.symm
    rintro ⟨c, f, _⟩ _ q2
    simp only at q2 ⊢
    have q3 := q2.trans k
    simp only [Prod.mk.injEq] at q3
    obtain ⟨q4, q5⟩ := q3
    subst q5
    rw [q4]
    simp
  clear q1
  rintro ⟨ok, _⟩ _ _ hok
  simp only at hok ⊢
  subst hok
  refine ⟨hB, ?_⟩
  rintro ⟨k, e, _⟩ ⟨hk, _⟩ q1
  simp only at q1 hk ⊢
  have hkl : List.length (α := Int) k = 20 := hk.1
  have hq : e = 0 → SubjectD k = b := fun h => (subject_once hw (by rw [← q1, h])).1
  refine ⟨by decide, fun u _ => u.1 = true, ?_, ?_⟩
  . clear q1 hI hb hw hx hk hB hl
    by_cases he : e = 0
    . have hq2 := hq he
      subst he
      simp [hkl]
      exact fun a _ h => h.trans (hq rfl)
    . simp [he]
  clear q1 hq
  rintro ⟨ok, _⟩ _ _ hok
  simp only at hok ⊢
  subst hok
  refine ⟨hB, ?_⟩
  rintro ⟨k', e, _⟩ ⟨hk', _⟩ q1
  simp only at q1 hk' ⊢
  have hkl' : List.length (α := Int) k' = 20 := hk'.1
  have hq : e = 0 → IssuerD k' = b := fun h => (issuer_once hw (by rw [← q1, h])).1
  refine ⟨hkl, ?_⟩
  clear q1 hI hb hw hx hk hk' hB hl
  by_cases he : e = 0
  . have hq2 := hq he
    subst he
    simp [hkl']
    exact fun a _ h => h.trans (hq rfl)
  . simp [he]
theorem h6 : c_law15_ExtOnce.ok Tryz.prog GL 6 := conO_ok (H := {joins := [6,10,14,18,22,26,30,34,36]}) (mkEnvO_ok (gl := GL) (l := [(26, conSem c_ext_Decode), (25, conSem c_ext_Encode), (28, conSem c_ext_ToBasic), (29, conSem c_ext_Basic), (30, conSem c_ext_ToUsage), (31, conSem c_ext_Usage), (23, conSem c_ext_ToPurposes), (19, conSem c_ext_Purposes), (21, conSem c_ext_ToNames), (17, conSem c_ext_Names), (11, conSem c_ext_ToTrees), (7, conSem c_ext_Trees), (32, conSem c_ext_ToNumber), (33, conSem c_ext_Number), (34, conSem c_ext_ToReason), (35, conSem c_ext_Reason), (36, conSem c_ext_ToSubject), (15, conSem c_ext_Subject), (37, conSem c_ext_ToIssuer), (38, conSem c_ext_Issuer), (27, conSem c_law15_there)]) (q := []) (d := []) _ [1000000,3000028] tyOk (by kernel_rfl) ⟨h26.call, h25.call, h28.call, h29.call, h30.call, h31.call, h23.call, h19.call, h21.call, h17.call, h11.call, h7.call, h32.call, h33.call, h34.call, h35.call, h36.call, h15.call, h37.call, h38.call, h27.call, trivial⟩ trivial trivial) (by kernel_rfl) (by kernel_rfl) (Eq.mp e6 k6)
end Go.Proofs.YtiofbnlbfmbodaaGreatDoor
end
section
namespace Go.Proofs.YtiofbnlbfmbodaaGreatDoor
open Go Go.Vc Go.Pl Go.Proofs
set_option maxRecDepth 100000 in
theorem glOk {w : World} (hL : laidMetH Tryz.prog [("unicode/utf8.acceptRanges", Rows.laid_unicode_utf8_acceptRanges), ("unicode/utf8.first", Rows.laid_unicode_utf8_first)] w) (hS : w.ShapedOpen Tryz.prog) : GlOk GL w (fun _ => False) := by
  have hL : laidMet Tryz.prog [("unicode/utf8.acceptRanges", Rows.laid_unicode_utf8_acceptRanges), ("unicode/utf8.first", Rows.laid_unicode_utf8_first)] w := hL
  have h0 := Lib.laidMet.reads hL (n := "unicode/utf8.first") (d := Rows.laid_unicode_utf8_first) (by simp)
  have h1 := Lib.laidMet.reads hL (n := "unicode/utf8.acceptRanges") (d := Rows.laid_unicode_utf8_acceptRanges) (by simp)
  obtain ⟨m, hm⟩ := Tryz.laysM219.s1_3 w hS
  have hm : w.cell? ⟨0, 0, none⟩ = some (.int .i64 m) := hm
  obtain ⟨fs, hs, hf, ho⟩ := pairB_eq (P := Tryz.prog) (e := 247) (k := .u8) (by kernel_rfl)
  have k0 := gl_ints (P := Tryz.prog) (w := w) (g := 1) (t := 245) (e := 5) (n := 256) (k := .u8) (zs := Lib.firstTab) (by kernel_rfl) (by kernel_rfl) (by kernel_rfl) (by kernel_rfl) (by kernel_rfl) (by kernel_rfl) (by kernel_rfl) (of_decide_eq_true (by kernel_rfl)) (by kernel_rfl) h0
  have k1 := gl_pairs (P := Tryz.prog) (w := w) (g := 2) (t := 248) (e := 247) (n := 16) (k := .u8) (zs := accTab) (by kernel_rfl) (by kernel_rfl) (by kernel_rfl) hs hf ho (by kernel_rfl) (by kernel_rfl) (by kernel_rfl) (of_decide_eq_true (by kernel_rfl)) (by kernel_rfl) (by kernel_rfl) h1
  intro g v hg
  rcases gl_cons hg with ⟨rfl, rfl⟩ | hg
  . exact k0
  rcases gl_cons hg with ⟨rfl, rfl⟩ | hg
  . exact k1
  obtain ⟨rfl, rfl⟩ := gl_one hg
  exact ⟨cell_lt hm, id, m, hm⟩
end Go.Proofs.YtiofbnlbfmbodaaGreatDoor
end
section
namespace Go.Proofs.YtiofbnlbfmbodaaGreatDoor
open Go Go.Vc Go.Pl Go.Proofs
end Go.Proofs.YtiofbnlbfmbodaaGreatDoor
end
