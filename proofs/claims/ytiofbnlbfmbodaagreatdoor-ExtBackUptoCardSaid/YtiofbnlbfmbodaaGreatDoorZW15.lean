/- Texts of a verified walk, led together: Law15wA, Law15wW, Law15bA, Law15bW, Glok12A, Glok12W. -/
import Derived.Test.YtiofbnlbfmbodaaGreatDoorZW14
import Derived.Test.YtiofbnlbfmbodaaGreatDoorZV21
import Derived.Test.YtiofbnlbfmbodaaGreatDoorRows
set_option linter.unusedVariables false
set_option linter.unusedSimpArgs false
section
namespace Go.Proofs.YtiofbnlbfmbodaaGreatDoor
open Go Go.Vc Go.Pl Go.Proofs
def c_law15_there : Con := { args := [], res := [.dat .bool], pre := fun _ => True, post := fun _ y => y.1 = true }
end Go.Proofs.YtiofbnlbfmbodaaGreatDoor
end
section
namespace Go.Proofs.YtiofbnlbfmbodaaGreatDoor
open Go Go.Vc Go.Pl Go.Proofs
set_option linter.unusedVariables false
set_option linter.unusedSimpArgs false
def t27 : Prop :=
  ∀ (x : Unit), True -> True -> True /\ (∀ (y : q5), (q87 y) -> y.1 = SubjectD [q56, q28, q28, q28, q28, q28, q28, q28, q28, q28, q28, q28, q28, q28, q28, q28, q28, q28, q28, q28] -> decide
  ((lnZ y.1) = (22 : Int)) = true) /\ True
theorem e27 : t27 = Con.vc c_law15_there GL (mkEnv ty [(15, conSem c_ext_Subject)] [] [] [0]) {} Tryz.f27.ntmps Tryz.f27.results.toList (bodyOf Tryz.f27) := by kernel_rfl
theorem k27 : t27 := by
  unfold t27
  delta q5 q87 q56 q28 lnZ wyZ
  rintro x hx hp
  try dsimp +instances only [dft_int, dft_sl, dft_str]
  try simp only [true_and, and_true, eq_self_iff_true, implies_true, reduceCtorEq, false_implies, true_implies, decide_eq_true_eq, decide_eq_false_iff_not, beq_self_eq_true, Bool.not_eq_true', ne_eq, Decidable.not_not, List.nil_append, List.length_singleton, List.length_cons, List.length_nil, Nat.zero_add, Nat.add_zero, Nat.mul_one, and_self, beq_iff_eq, Bool.not_true, Bool.not_false, Bool.not_eq_false', Bool.cond_false_right, Bool.and_eq_true, imp_self, Bool.not_eq_true, Bool.cond_true_left, Bool.or_eq_true]
  rintro ⟨y, _⟩ _ e
  simp only at e ⊢
  rw [e]
  decide
theorem h27 : c_law15_there.ok Tryz.prog GL 27 := con_ok (H := {}) (mkEnv_ok (gl := GL) (l := [(15, conSem c_ext_Subject)]) (q := []) (d := []) _ tyOk (by kernel_rfl) ⟨h15.call, trivial⟩ trivial trivial) (by kernel_rfl) (by kernel_rfl) (Eq.mp e27 k27)
end Go.Proofs.YtiofbnlbfmbodaaGreatDoor
end
section
namespace Go.Proofs.YtiofbnlbfmbodaaGreatDoor
open Go Go.Vc Go.Pl Go.Proofs
def c_law15_ExtBack : Con := { args := [.dat (.sl EXT), .dat (.sl GK), .dat (.pair (.sl GK) (.sl GK))], res := [.dat .bool], pre := fun x => ABulk [.dat (.sl EXT), .dat (.sl GK), .dat (.pair (.sl GK) (.sl GK))] x ≤ 1048576, post := fun _ y => y.1 = true }
end Go.Proofs.YtiofbnlbfmbodaaGreatDoor
end
section
namespace Go.Proofs.YtiofbnlbfmbodaaGreatDoor
open Go Go.Vc Go.Pl Go.Proofs
set_option maxHeartbeats 8000000
set_option maxRecDepth 20000
set_option linter.unusedVariables false
set_option linter.unusedSimpArgs false
abbrev q357 (p0 : List (Int × Bool × List Int) × Int × Unit) (p1 : q9) := (List.getD p0.1 (Int.toNat p1.1) q373)
abbrev q358 (p0 : List (Int × Bool × List Int) × List (Int × List Int) × (List (Int × List Int) × List (Int × List Int)) × Unit) (p1 : q9) := (List.getD p0.1 (Int.toNat p1.1) q373)
abbrev q356 (p0 : List (Int × Bool × List Int) × Int × Unit) (p1 : q9) (p2 : List (Int × Bool × List Int) × List (Int × List Int) × (List (Int × List Int) × List (Int × List Int)) × Unit)
  := ((List.getD p0.1 (Int.toNat p1.1) q373).2.1 ≠ (List.getD p2.1 (Int.toNat p1.1) q373).2.1)
abbrev q333 (p0 : List (Int × Bool × List Int) × Int × Unit) (p1 : q9) (p2 : List (Int × Bool × List Int) × List (Int × List Int) × (List (Int × List Int) × List (Int × List Int)) × Unit)
  := (bif decide ((q357 p0 p1).1 ≠ (q358 p2 p1).1) then true else decide (q356 p0 p1 p2))
abbrev q246 (p0 : List (Int × Bool × List Int) × Int × Unit) (p1 : q9) (p2 : List (Int × Bool × List Int) × List (Int × List Int) × (List (Int × List Int) × List (Int × List Int)) × Unit)
  := ((q333 p0 p1 p2) = false -> ((q333 p0 p1 p2) == false) = true /\ True)
abbrev q334 (p0 : List (Int × Bool × List Int) × Int × Unit) (p1 : q9) (p2 : List (Int × Bool × List Int) × List (Int × List Int) × (List (Int × List Int) × List (Int × List Int)) × Unit)
  := ((q357 p0 p1).1 ≠ (q358 p2 p1).1)
abbrev q247 (p0 : List (Int × Bool × List Int) × Int × Unit) (p1 : q9) (p2 : List (Int × Bool × List Int) × List (Int × List Int) × (List (Int × List Int) × List (Int × List Int)) × Unit)
  := (bif bif decide (q334 p0 p1 p2) then true else decide (q356 p0 p1 p2) then true else decide ((q357 p0 p1).2.2 ≠ (q358 p2 p1).2.2))
abbrev q248 (p0 : List (Int × Bool × List Int) × Int × Unit) (p1 : q9) (p2 : List (Int × Bool × List Int) × List (Int × List Int) × (List (Int × List Int) × List (Int × List Int)) × Unit)
  := ((q333 p0 p1 p2) = false -> True)
abbrev q249 (p0 : List (Int × Bool × List Int) × Int × Unit) (p1 : q9) (p2 : List (Int × Bool × List Int) × List (Int × List Int) × (List (Int × List Int) × List (Int × List Int)) × Unit)
  := (decide (q334 p0 p1 p2) = false -> (decide (q334 p0 p1 p2) == false) = true /\ True)
abbrev q250 (p0 : List (Int × Bool × List Int) × Int × Unit) (p1 : q9) (p2 : List (Int × Bool × List Int) × List (Int × List Int) × (List (Int × List Int) × List (Int × List Int)) × Unit)
  := ((q333 p0 p1 p2) == false)
abbrev q251 (p0 : List (Int × Bool × List Int) × Int × Unit) (p1 : q9) (p2 : List (Int × Bool × List Int) × List (Int × List Int) × (List (Int × List Int) × List (Int × List Int)) × Unit)
  := (bif decide (q334 p0 p1 p2) then true else decide (q356 p0 p1 p2))
abbrev q252 (p0 : (List (Int × List Int) × List (Int × List Int)) × Int × Unit) (p1 : q9) (p2 : List (Int × Bool × List Int) × List (Int × List Int) × (List (Int × List Int) × List (Int ×
  List Int)) × Unit) := (!(decide ((List.getD p0.1.1 (q264 p1) q294).1 = (List.getD p2.2.2.1.1 (q264 p1) q294).1) && decide ((List.getD p0.1.1 (q264 p1) q294).2 = (List.getD p2.2.2.1.1 (q264
  p1) q294).2)))
abbrev q253 (p0 : (List (Int × List Int) × List (Int × List Int)) × Int × Unit) (p1 : q9) (p2 : List (Int × Bool × List Int) × List (Int × List Int) × (List (Int × List Int) × List (Int ×
  List Int)) × Unit) := (!(decide ((List.getD p0.1.2 (q264 p1) q294).1 = (List.getD p2.2.2.1.2 (q264 p1) q294).1) && decide ((List.getD p0.1.2 (q264 p1) q294).2 = (List.getD p2.2.2.1.2 (q264
  p1) q294).2)))
abbrev q254 (p0 : q19) (p1 : q9) (p2 : List (Int × Bool × List Int) × List (Int × List Int) × (List (Int × List Int) × List (Int × List Int)) × Unit) := (!(decide ((List.getD p0.1 (q264 p1)
  q294).1 = (List.getD p2.2.1 (q264 p1) q294).1) && decide ((List.getD p0.1 (q264 p1) q294).2 = (List.getD p2.2.1 (q264 p1) q294).2)))
abbrev q255 (p0 : List (Int × Bool × List Int) × Int × Unit) (p1 : q9) (p2 : List (Int × Bool × List Int) × List (Int × List Int) × (List (Int × List Int) × List (Int × List Int)) × Unit)
  := (decide (q334 p0 p1 p2) = false -> True)
abbrev q256 (p0 : List (Int × Bool × List Int) × Int × Unit) (p1 : q9) (p2 : List (Int × Bool × List Int) × List (Int × List Int) × (List (Int × List Int) × List (Int × List Int)) × Unit)
  := (decide (q334 p0 p1 p2) == false)
abbrev q257 (p0 : List (Int × Bool × List Int) × Int × Unit) (p1 : q9) (p2 : List (Int × Bool × List Int) × List (Int × List Int) × (List (Int × List Int) × List (Int × List Int)) × Unit)
  := ((q357 p0 p1).1 ≠ (q358 p2 p1).1)
abbrev q258 (p0 : (List (Int × List Int) × List (Int × List Int)) × Int × Unit) (p1 : List (Int × Bool × List Int) × List (Int × List Int) × (List (Int × List Int) × List (Int × List Int))
  × Unit) := ((bif decide (p0.2.1 ≠ q261) then true else decide ((lnZ p0.1.1) ≠ (lnZ p1.2.2.1.1))) = false -> ((bif decide (p0.2.1 ≠ q261) then true else decide ((lnZ p0.1.1) ≠ (lnZ
  p1.2.2.1.1))) == false) = true /\ True)
abbrev q259 (p0 : (List (Int × List Int) × List (Int × List Int)) × Int × Unit) := (decide (p0.2.1 ≠ q261) = false -> (decide (p0.2.1 ≠ q261) == false) = true /\ True)
abbrev q260 (p0 : q19) := (decide (p0.2.1 ≠ q261) == false)
abbrev q298 (p0 : q232 × Int × Unit) (p1 : List q220 × List q117 × q232 × Unit) := ((bif decide (p0.2.1 ≠ q340) then true else decide ((lnZ p0.1.1) ≠ (lnZ p1.2.2.1.1))) == false)
abbrev q299 (p0 : q232 × Int × Unit) (p1 : List q220 × List q117 × q232 × Unit) := (bif decide (p0.2.1 ≠ q340) then true else decide ((lnZ p0.1.1) ≠ (lnZ p1.2.2.1.1)))
def t5 : Prop :=
  ∀ (x : List q220 × List q117 × q232 × Unit), Kd.wf q218 x.1 /\ (Kd.wf q153 x.2.1 /\ Kd.wf q231 x.2.2.1 /\ True) -> ABulk [AK.dat q218, AK.dat q153, AK.dat q231] x <= (1048576 : Nat) ->
  List.length [SV.dat q153 x.2.2.1.1, SV.dat q153 x.2.2.1.2] <= q55 /\ lenX x.1 <= q203 /\ (∀ (y : q0), (q124 y) -> (y.1, y.2.1) = ExtsD x.1 -> ∃ (J : Bool × Unit -> Unit × Unit -> Prop),
  ((decide (q290 y) = true -> lenB y.1 <= q203 /\ (∀ (y_1 : List q220 × Int × Unit), Kd.wf q218 y_1.1 /\ (wiZ y_1.2.1 /\ True) -> (y_1.1, y_1.2.1) = ToExtsD y.1 -> (decide (y_1.2.1 ≠ q28) =
  false -> True) /\ (decide (y_1.2.1 ≠ q28) = false -> (decide (y_1.2.1 ≠ q28) == false) = true /\ True) /\ (decide (y_1.2.1 ≠ q28) = false -> True) /\ (decide (y_1.2.1 ≠ q28) = false ->
  (decide (y_1.2.1 ≠ q28) == false) = true /\ True) /\ (decide (y_1.2.1 ≠ q28) = false -> (decide (y_1.2.1 ≠ q28) == false) = true /\ (decide (y_1.2.1 ≠ q28) == false) = true /\ True) /\
  (decide (y_1.2.1 ≠ q28) = false -> (decide (y_1.2.1 ≠ q28) == false) = true) /\ ((bif decide (y_1.2.1 ≠ q28) then true else decide ((lnZ y_1.1) ≠ (lnZ x.1))) = true -> false = true) /\
  ((bif decide (y_1.2.1 ≠ q28) then true else decide ((lnZ y_1.1) ≠ (lnZ x.1))) = false -> ∃ (I : Int × Bool × Unit -> Unit × Unit -> Prop), ∃ (μ : Int × Bool × Unit -> Unit × Unit -> Nat),
  (Value.bool false = Value.bool false /\ y_1.2.1 = y_1.2.1 /\ y_1.1 = y_1.1 /\ Value.bool true = Value.bool true /\ y.2.1 = y.2.1 /\ y.1 = y.1 /\ x.1 = x.1 /\ x.2.1 = x.2.1 /\ x.2.2.1 =
  x.2.2.1 /\ x.2.2.1.1 = x.2.2.1.1 /\ x.2.2.1.2 = x.2.2.1.2 /\ I (q28, false, ()) ((), ())) /\ ∀ (y_2 : q9) (z : Unit × Unit), (q67 y_2) -> True /\ True -> I y_2 z -> (decide (y_2.1 < (lnZ
  x.1)) = true -> (q28 <= y_2.1 /\ y_2.1 < (lnZ y_1.1)) /\ (q28 <= y_2.1 /\ y_2.1 < (lnZ x.1)) /\ (q255 y_1 y_2 x) /\ (q255 y_1 y_2 x) /\ (decide (q257 y_1 y_2 x) = false -> (q256 y_1 y_2 x)
  = true /\ (q256 y_1 y_2 x) = true /\ (q28 <= y_2.1 /\ y_2.1 < (lnZ y_1.1)) /\ True) /\ (q249 y_1 y_2 x) /\ (q249 y_1 y_2 x) /\ (q255 y_1 y_2 x) /\ (q255 y_1 y_2 x) /\ (decide (q257 y_1 y_2
  x) = false -> (q256 y_1 y_2 x) = true /\ (q256 y_1 y_2 x) = true /\ (q28 <= y_2.1 /\ y_2.1 < (lnZ x.1)) /\ True) /\ (q249 y_1 y_2 x) /\ (q249 y_1 y_2 x) /\ (decide (q257 y_1 y_2 x) = false
  -> (q256 y_1 y_2 x) = true /\ (q256 y_1 y_2 x) = true /\ True) /\ (decide (q257 y_1 y_2 x) = false -> (q256 y_1 y_2 x) = true) /\ (q248 y_1 y_2 x) /\ (q248 y_1 y_2 x) /\ ((q251 y_1 y_2 x) =
  false -> (q250 y_1 y_2 x) = true /\ (q250 y_1 y_2 x) = true /\ (q28 <= y_2.1 /\ y_2.1 < (lnZ y_1.1)) /\ True) /\ (q246 y_1 y_2 x) /\ (q246 y_1 y_2 x) /\ (q246 y_1 y_2 x) /\ (q248 y_1 y_2 x)
  /\ (q248 y_1 y_2 x) /\ ((q251 y_1 y_2 x) = false -> (q250 y_1 y_2 x) = true /\ (q250 y_1 y_2 x) = true /\ (q28 <= y_2.1 /\ y_2.1 < (lnZ x.1)) /\ True) /\ (q246 y_1 y_2 x) /\ (q246 y_1 y_2
  x) /\ (q246 y_1 y_2 x) /\ ((q251 y_1 y_2 x) = false -> (q250 y_1 y_2 x) = true /\ (q250 y_1 y_2 x) = true /\ True) /\ ((q251 y_1 y_2 x) = false -> (q250 y_1 y_2 x) = true) /\ ((q247 y_1 y_2
  x) = true -> false = true) /\ ((q247 y_1 y_2 x) = false -> Value.bool false = Value.bool false /\ y_1.2.1 = y_1.2.1 /\ y_1.1 = y_1.1 /\ Value.bool true = Value.bool true /\ y.2.1 = y.2.1 /\
  y.1 = y.1 /\ x.1 = x.1 /\ x.2.1 = x.2.1 /\ x.2.2.1 = x.2.2.1 /\ x.2.2.1.1 = x.2.2.1.1 /\ x.2.2.1.2 = x.2.2.1.2 /\ I (wrZ (q68 y_2), y_2.2.1, ()) ((), ()) /\ μ (wrZ (q68 y_2), y_2.2.1, ())
  ((), ()) < μ y_2 z)) /\ (decide (y_2.1 < (lnZ x.1)) = false -> y.2.1 = y.2.1 /\ x.1 = x.1 /\ x.2.1 = x.2.1 /\ x.2.2.1 = x.2.2.1 /\ x.2.2.1.1 = x.2.2.1.1 /\ x.2.2.1.2 = x.2.2.1.2 /\ J
  (y_2.2.1, ()) ((), ())))) /\ True) /\ (decide (q290 y) = false -> y.2.1 = y.2.1 /\ x.1 = x.1 /\ x.2.1 = x.2.1 /\ x.2.2.1 = x.2.2.1 /\ x.2.2.1.1 = x.2.2.1.1 /\ x.2.2.1.2 = x.2.2.1.2 /\ J
  (false, ()) ((), ()))) /\ ∀ (u : q4) (z : Unit × Unit), (q35 u) -> True /\ True -> J u z -> lenG x.2.1 <= q203 /\ (∀ (y : q0), (q124 y) -> (y.1, y.2.1) = NamesD x.2.1 -> ∃ (J : Bool × Unit
  -> Unit × Unit -> Prop), ((decide (q290 y) = true -> lenB y.1 <= q203 /\ (∀ (y_1 : q19), (Kd.wf q153 y_1.1 /\ wiZ y_1.2.1 /\ True) -> (y_1.1, y_1.2.1) = ToNamesD y.1 -> (decide (y_1.2.1 ≠
  q28) = false -> True) /\ (decide (y_1.2.1 ≠ q28) = false -> (q260 y_1) = true /\ True) /\ (decide (y_1.2.1 ≠ q28) = false -> True) /\ (decide (y_1.2.1 ≠ q28) = false -> (q260 y_1) = true /\
  True) /\ (decide (y_1.2.1 ≠ q28) = false -> (q260 y_1) = true /\ (q260 y_1) = true /\ True) /\ (decide (y_1.2.1 ≠ q28) = false -> (q260 y_1) = true) /\ ((bif decide (y_1.2.1 ≠ q28) then
  true else decide ((lnZ y_1.1) ≠ (lnZ x.2.1))) = true -> false = true) /\ ((bif decide (y_1.2.1 ≠ q28) then true else decide ((lnZ y_1.1) ≠ (lnZ x.2.1))) = false -> ∃ (I : Int × Bool × Unit
  -> Unit × Unit -> Prop), ∃ (μ : Int × Bool × Unit -> Unit × Unit -> Nat), (Value.bool false = Value.bool false /\ y_1.2.1 = y_1.2.1 /\ Value.bool true = Value.bool true /\ y.2.1 = y.2.1 /\
  x.1 = x.1 /\ x.2.1 = x.2.1 /\ x.2.2.1 = x.2.2.1 /\ x.2.2.1.1 = x.2.2.1.1 /\ x.2.2.1.2 = x.2.2.1.2 /\ y.1 = y.1 /\ y_1.1 = y_1.1 /\ I (q28, u.1, ()) ((), ())) /\ ∀ (y_2 : q9) (z : Unit ×
  Unit), (q67 y_2) -> True /\ True -> I y_2 z -> (decide (y_2.1 < (lnZ x.2.1)) = true -> (q28 <= y_2.1 /\ y_2.1 < (lnZ y_1.1)) /\ (q28 <= y_2.1 /\ y_2.1 < (lnZ x.2.1)) /\ ((q254 y_1 y_2 x) =
  true -> false = true) /\ ((q254 y_1 y_2 x) = false -> Value.bool false = Value.bool false /\ y_1.2.1 = y_1.2.1 /\ Value.bool true = Value.bool true /\ y.2.1 = y.2.1 /\ x.1 = x.1 /\ x.2.1 =
  x.2.1 /\ x.2.2.1 = x.2.2.1 /\ x.2.2.1.1 = x.2.2.1.1 /\ x.2.2.1.2 = x.2.2.1.2 /\ y.1 = y.1 /\ y_1.1 = y_1.1 /\ I (wrZ (q68 y_2), y_2.2.1, ()) ((), ()) /\ μ (wrZ (q68 y_2), y_2.2.1, ()) ((),
  ()) < μ y_2 z)) /\ (decide (y_2.1 < (lnZ x.2.1)) = false -> y.2.1 = y.2.1 /\ x.1 = x.1 /\ x.2.1 = x.2.1 /\ x.2.2.1 = x.2.2.1 /\ x.2.2.1.1 = x.2.2.1.1 /\ x.2.2.1.2 = x.2.2.1.2 /\ y.1 = y.1
  /\ J (y_2.2.1, ()) ((), ())))) /\ True) /\ (decide (q290 y) = false -> y.2.1 = y.2.1 /\ x.1 = x.1 /\ x.2.1 = x.2.1 /\ x.2.2.1 = x.2.2.1 /\ x.2.2.1.1 = x.2.2.1.1 /\ x.2.2.1.2 = x.2.2.1.2 /\
  y.1 = y.1 /\ J (u.1, ()) ((), ()))) /\ ∀ (u : q4) (z : Unit × Unit), (q35 u) -> True /\ True -> J u z -> (lenG x.2.2.1.1 <= q203 /\ lenG x.2.2.1.2 <= q203) /\ (∀ (y : q0), (q124 y) -> (y.1,
  y.2.1) = TreesD (x.2.2.1.1, x.2.2.1.2) -> (decide (y.2.1 ≠ q28) = true -> (decide (y.2.1 = q225) = true -> True) /\ (decide (y.2.1 = q225) = true -> (decide (y.2.1 = q225) == true) = true
  /\ True) /\ (decide (y.2.1 = q225) = true -> (decide (y.2.1 = q225) == true) = true /\ True) /\ (decide (y.2.1 = q225) = true -> (decide (y.2.1 = q225) == true) = true) /\ ((bif decide
  (y.2.1 = q225) then decide ((lnZ y.1) = q28) else false) = true -> True /\ (∀ (y : q4), (q35 y) -> y.1 = true -> y.1 = true) /\ True) /\ ((bif decide (y.2.1 = q225) then decide ((lnZ y.1) =
  q28) else false) = !true -> false = true)) /\ (decide (y.2.1 ≠ q28) = false -> lenB y.1 <= q203 /\ (∀ (y_1 : q232 × Int × Unit), (Kd.wf q231 y_1.1 /\ wiZ y_1.2.1 /\ True) -> (y_1.1,
  y_1.2.1) = ToTreesD y.1 -> q59 <= q55 /\ (decide (y_1.2.1 ≠ q340) = false -> True) /\ (q259 y_1) /\ (q259 y_1) /\ (decide (y_1.2.1 ≠ q340) = false -> True) /\ (q259 y_1) /\ (q259 y_1) /\
  (decide (y_1.2.1 ≠ q340) = false -> (decide (y_1.2.1 ≠ q340) == false) = true /\ (decide (y_1.2.1 ≠ q340) == false) = true /\ True) /\ (decide (y_1.2.1 ≠ q340) = false -> (decide (y_1.2.1 ≠
  q340) == false) = true) /\ ((q299 y_1 x) = false -> True) /\ (q258 y_1 x) /\ (q258 y_1 x) /\ ((q299 y_1 x) = false -> True) /\ (q258 y_1 x) /\ (q258 y_1 x) /\ ((q299 y_1 x) = false -> (q298
  y_1 x) = true /\ (q298 y_1 x) = true /\ True) /\ ((q299 y_1 x) = false -> (q298 y_1 x) = true) /\ ((bif bif decide (y_1.2.1 ≠ q340) then true else decide ((lnZ y_1.1.1) ≠ (lnZ x.2.2.1.1))
  then true else decide ((lnZ y_1.1.2) ≠ (lnZ x.2.2.1.2))) = true -> false = true) /\ ((bif bif decide (y_1.2.1 ≠ q340) then true else decide ((lnZ y_1.1.1) ≠ (lnZ x.2.2.1.1)) then true else
  decide ((lnZ y_1.1.2) ≠ (lnZ x.2.2.1.2))) = false -> ∃ (I : Int × Bool × Unit -> Unit × Unit × Unit -> Prop), ∃ (μ : Int × Bool × Unit -> Unit × Unit × Unit -> Nat), (Value.bool false =
  Value.bool false /\ y_1.2.1 = y_1.2.1 /\ Value.bool false = Value.bool false /\ y.2.1 = y.2.1 /\ y.1 = y.1 /\ x.1 = x.1 /\ x.2.1 = x.2.1 /\ x.2.2.1 = x.2.2.1 /\ x.2.2.1.1 = x.2.2.1.1 /\
  x.2.2.1.2 = x.2.2.1.2 /\ y_1.1.1 = y_1.1.1 /\ y_1.1.2 = y_1.1.2 /\ I (q28, u.1, ()) ((), (), ())) /\ ∀ (y_2 : q9) (z : Unit × Unit × Unit), (q67 y_2) -> True /\ True /\ True -> I y_2 z ->
  (decide (y_2.1 < (lnZ x.2.2.1.1)) = true -> (q28 <= y_2.1 /\ y_2.1 < (lnZ y_1.1.1)) /\ (q28 <= y_2.1 /\ y_2.1 < (lnZ x.2.2.1.1)) /\ ((q252 y_1 y_2 x) = true -> false = true) /\ ((q252 y_1
  y_2 x) = false -> Value.bool false = Value.bool false /\ y_1.2.1 = y_1.2.1 /\ Value.bool false = Value.bool false /\ y.2.1 = y.2.1 /\ y.1 = y.1 /\ x.1 = x.1 /\ x.2.1 = x.2.1 /\ x.2.2.1 =
  x.2.2.1 /\ x.2.2.1.1 = x.2.2.1.1 /\ x.2.2.1.2 = x.2.2.1.2 /\ y_1.1.1 = y_1.1.1 /\ y_1.1.2 = y_1.1.2 /\ I (wrZ (q68 y_2), y_2.2.1, ()) ((), (), ()) /\ μ (wrZ (q68 y_2), y_2.2.1, ()) ((), (),
  ()) < μ y_2 z)) /\ (decide (y_2.1 < (lnZ x.2.2.1.1)) = false -> ∃ (I : Int × Bool × Unit -> Unit × Unit × Unit -> Prop), ∃ (μ : Int × Bool × Unit -> Unit × Unit × Unit -> Nat), (Value.bool
  false = Value.bool false /\ y_2.1 = y_2.1 /\ Value.bool false = Value.bool false /\ y_1.2.1 = y_1.2.1 /\ Value.bool false = Value.bool false /\ y.2.1 = y.2.1 /\ y.1 = y.1 /\ x.1 = x.1 /\
  x.2.1 = x.2.1 /\ x.2.2.1 = x.2.2.1 /\ x.2.2.1.1 = x.2.2.1.1 /\ x.2.2.1.2 = x.2.2.1.2 /\ y_1.1.1 = y_1.1.1 /\ y_1.1.2 = y_1.1.2 /\ I (q28, y_2.2.1, ()) ((), (), ())) /\ ∀ (y_3 : q9) (z :
  Unit × Unit × Unit), (q67 y_3) -> True /\ True /\ True -> I y_3 z -> (decide (y_3.1 < (lnZ x.2.2.1.2)) = true -> (q28 <= y_3.1 /\ y_3.1 < (lnZ y_1.1.2)) /\ (q28 <= y_3.1 /\ y_3.1 < (lnZ
  x.2.2.1.2)) /\ ((q253 y_1 y_3 x) = true -> false = true) /\ ((q253 y_1 y_3 x) = false -> Value.bool false = Value.bool false /\ y_2.1 = y_2.1 /\ Value.bool false = Value.bool false /\
  y_1.2.1 = y_1.2.1 /\ Value.bool false = Value.bool false /\ y.2.1 = y.2.1 /\ y.1 = y.1 /\ x.1 = x.1 /\ x.2.1 = x.2.1 /\ x.2.2.1 = x.2.2.1 /\ x.2.2.1.1 = x.2.2.1.1 /\ x.2.2.1.2 = x.2.2.1.2
  /\ y_1.1.1 = y_1.1.1 /\ y_1.1.2 = y_1.1.2 /\ I (wrZ (q68 y_3), y_3.2.1, ()) ((), (), ()) /\ μ (wrZ (q68 y_3), y_3.2.1, ()) ((), (), ()) < μ y_3 z)) /\ (decide (y_3.1 < (lnZ x.2.2.1.2)) =
  false -> True /\ (∀ (y : q4), (q35 y) -> y.1 = true -> y.1 = true) /\ True)))) /\ True)) /\ True) /\ True) /\ True
theorem e5 : t5 = Con.vc c_law15_ExtBack GL (mkEnvO ty [(25, conSem c_ext_Encode), (26, conSem c_ext_Decode), (17, conSem c_ext_Names), (21, conSem c_ext_ToNames), (7, conSem c_ext_Trees), (11, conSem c_ext_ToTrees), (27, conSem c_law15_there)] [] [] [0, 1, 2, 5, 6, 7, 8, 9, 10, 11, 12, 13, 14, 15, 16, 17, 18, 25, 39, 43, 84, 91, 105, 109, 120, 127, 162, 167, 180, 185, 198] [1000000]) {joins := [11,21],drops := [(11,7)]} Tryz.f5.ntmps Tryz.f5.results.toList (bodyOf Tryz.f5) := by kernel_rfl
theorem k5 : t5 := by
  unfold t5
  delta q220 q117 q232 q218 q153 q231 q55 q203 q0 q124 q290 wiZ q28 lnZ q9 q67 q255 q257 q256 q249 q248 q251 q250 q246 q247 wrZ q68 q4 q35 q19 q260 q254 q225 q59 q340 q259 q299 q258 q298 q252 q253 q352 q316 wyZ wbZ q334 q357 q358 q333 q356 q288 q261 q264 q294 q378 q377 q343 q373
  rintro ⟨l, g, ⟨t1, t2⟩, _⟩ hx hp
  obtain ⟨hl, hg, ht1, ht2⟩ := bulk_back hp
  have hT : lenG t1 + lenG t2 ≤ 1048576 := by
    have hp : Kd.bulk (.sl EXT) l + (Kd.bulk (.sl GK) g + ((Kd.bulk (.sl GK) t1 + Kd.bulk (.sl GK) t2) + 0)) ≤ 1048576 := hp
    have c1 := bulk_gens t1
    have c2 := bulk_gens t2
    omega
  clear hp
  try dsimp +instances only [dft_int, dft_sl, dft_str]
  simp only [true_and, and_true, eq_self_iff_true, implies_true, reduceCtorEq, false_implies, true_implies, decide_eq_true_eq, decide_eq_false_iff_not, beq_self_eq_true, Bool.not_eq_true', ne_eq, Decidable.not_not, List.nil_append, List.length_singleton, List.length_cons, List.length_nil, Nat.zero_add, Nat.add_zero, Nat.mul_one, and_self, beq_iff_eq, Bool.not_true, Bool.not_false, Bool.not_eq_false', Bool.cond_false_right, Bool.and_eq_true, imp_self, Bool.not_eq_true, Bool.cond_true_left, Bool.or_eq_true]
  simp only at hg ht1 ht2
  have hG : lenG g ≤ 2000000 := by omega
  have hT1 : lenG t1 ≤ 2000000 := by omega
  have hT2 : lenG t2 ≤ 2000000 := by omega
  refine ⟨by decide, by show l.length ≤ _; omega, ?_⟩
  rintro ⟨b, e, _⟩ _ q1
  simp only at q1 ⊢
  have hb := (exts_len q1.symm).1
  refine ⟨fun _ _ => True, ⟨?_, fun _ => trivial⟩, ?_⟩
  . intro he
    subst he
    refine ⟨by show b.length ≤ _; omega, ?_⟩
    rintro ⟨m, f, _⟩ _ q2
    simp only at q2 ⊢
    obtain ⟨rfl, rfl⟩ := Prod.mk.inj (q2.trans (exts_back (by omega) q1.symm))
    refine ⟨fun h => by simp at h, fun _ => ?_⟩
    refine ⟨fun y _ => 0 ≤ y.1 ∧ y.1 ≤ m.length, fun y _ => ((m.length : Int) - y.1).toNat, ⟨Int.le_refl 0, by simp only; omega⟩, ?_⟩
    rintro ⟨i, w1, _⟩ _ _ ⟨h0, h1⟩
    simp only at h0 h1 ⊢
    refine ⟨fun hi => ?_, fun _ => trivial⟩
    have a : 0 ≤ i ∧ i < (m.length : Int) := ⟨h0, hi⟩
    have a1 := wrapM (i + 1) (by omega) (by omega)
    rw [a1]
    simp [a.1, a.2]
    omega
  clear q1 hb
  rintro ⟨ok, _⟩ _ _ _
  simp only
  refine ⟨hG, ?_⟩
  rintro ⟨b, e, _⟩ _ q1
  simp only at q1 ⊢
  have hb := (names_len (by omega) q1.symm).1
  refine ⟨fun _ _ => True, ⟨?_, fun _ => trivial⟩, ?_⟩
  . intro he
    subst he
    refine ⟨by show b.length ≤ _; omega, ?_⟩
    rintro ⟨m, f, _⟩ _ q2
    simp only at q2 ⊢
    obtain ⟨rfl, rfl⟩ := Prod.mk.inj (q2.trans (names_back (by omega) q1.symm))
    have hm := (names_few q2.symm)
    refine ⟨fun h => by simp at h, fun _ => ?_⟩
    refine ⟨fun y _ => 0 ≤ y.1 ∧ y.1 ≤ m.length, fun y _ => ((m.length : Int) - y.1).toNat, ⟨Int.le_refl 0, by simp only; omega⟩, ?_⟩
    rintro ⟨i, w1, _⟩ _ _ ⟨h0, h1⟩
    simp only at h0 h1 ⊢
    refine ⟨fun hi => ?_, fun _ => trivial⟩
    have a : 0 ≤ i ∧ i < (m.length : Int) := ⟨h0, hi⟩
    have a1 := wrapM (i + 1) (by omega) (by omega)
    rw [a1]
    simp [a.1, a.2]
    omega
  clear q1 hb
  rintro ⟨ok, _⟩ _ _ _
  simp only
  refine ⟨⟨hT1, hT2⟩, ?_⟩
  rintro ⟨b, e, _⟩ _ q1
  simp only at q1 ⊢
  have hb := trees_len (t := (t1, t2)) (by simp only; omega) q1.symm
  refine ⟨fun he => ?_, fun he => ?_⟩
  . rcases hb.2 with h | ⟨h, h'⟩
    . exact absurd h he
    . subst h h'
      simp
  . subst he
    refine ⟨by show b.length ≤ _; omega, ?_⟩
    rintro ⟨⟨m1, m2⟩, f, _⟩ _ q2
    simp only at q2 ⊢
    have q3 := q2.trans (trees_back (t := (t1, t2)) (by omega) q1.symm)
    simp only [Prod.mk.injEq] at q3
    obtain ⟨⟨rfl, rfl⟩, rfl⟩ := q3
    refine ⟨by decide, fun h => by simp at h, fun _ => ?_⟩
    refine ⟨fun y _ => 0 ≤ y.1 ∧ y.1 ≤ m1.length, fun y _ => ((m1.length : Int) - y.1).toNat, ⟨Int.le_refl 0, by simp only; omega⟩, ?_⟩
    rintro ⟨i, w1, _⟩ _ _ ⟨h0, h1⟩
    simp only at h0 h1 ⊢
    refine ⟨fun hi => ?_, fun hi => ?_⟩
    . have a : 0 ≤ i ∧ i < (m1.length : Int) := ⟨h0, hi⟩
      have a1 := wrapM (i + 1) (by omega) (by omega)
      rw [a1]
      simp [a.1, a.2]
      omega
    . refine ⟨fun y _ => 0 ≤ y.1 ∧ y.1 ≤ m2.length, fun y _ => ((m2.length : Int) - y.1).toNat, ⟨Int.le_refl 0, by simp only; omega⟩, ?_⟩
      rintro ⟨j, w2, _⟩ _ _ ⟨g0, g1⟩
      simp only at g0 g1 ⊢
      intro hj
      have a : 0 ≤ j ∧ j < (m2.length : Int) := ⟨g0, hj⟩
      have a1 := wrapM (j + 1) (by omega) (by omega)
      rw [a1]
      simp [a.1, a.2]
      omega
theorem h5 : c_law15_ExtBack.ok Tryz.prog GL 5 := conO_ok (H := {joins := [11,21],drops := [(11,7)]}) (mkEnvO_ok (gl := GL) (l := [(25, conSem c_ext_Encode), (26, conSem c_ext_Decode), (17, conSem c_ext_Names), (21, conSem c_ext_ToNames), (7, conSem c_ext_Trees), (11, conSem c_ext_ToTrees), (27, conSem c_law15_there)]) (q := []) (d := []) _ [1000000] tyOk (by kernel_rfl) ⟨h25.call, h26.call, h17.call, h21.call, h7.call, h11.call, h27.call, trivial⟩ trivial trivial) (by kernel_rfl) (by kernel_rfl) (Eq.mp e5 k5)
end Go.Proofs.YtiofbnlbfmbodaaGreatDoor
end
section
namespace Go.Proofs.YtiofbnlbfmbodaaGreatDoor
open Go Go.Vc Go.Pl Go.Proofs
set_option maxRecDepth 100000 in
theorem glOk {w : World} (hL : laidMetH Tryz.prog [("unicode/utf8.acceptRanges", Rows.laid_unicode_utf8_acceptRanges), ("unicode/utf8.first", Rows.laid_unicode_utf8_first)] w) (hS : w.ShapedOpen Tryz.prog) : GlOk GL w (fun _ => False) := by
  have hL : laidMet Tryz.prog [("unicode/utf8.acceptRanges", Rows.laid_unicode_utf8_acceptRanges), ("unicode/utf8.first", Rows.laid_unicode_utf8_first)] w := hL
  have h0 := Lib.laidMet.reads hL (n := "unicode/utf8.first") (d := Rows.laid_unicode_utf8_first) (by simp)
  have h1 := Lib.laidMet.reads hL (n := "unicode/utf8.acceptRanges") (d := Rows.laid_unicode_utf8_acceptRanges) (by simp)
  obtain ⟨m, hm⟩ := Tryz.laysM219.s1_3 w hS
  have hm : w.cell? ⟨0, 0, none⟩ = some (.int .i64 m) := hm
  obtain ⟨fs, hs, hf, ho⟩ := pairB_eq (P := Tryz.prog) (e := 247) (k := .u8) (by kernel_rfl)
  have k0 := gl_ints (P := Tryz.prog) (w := w) (g := 1) (t := 245) (e := 5) (n := 256) (k := .u8) (zs := Lib.firstTab) (by kernel_rfl) (by kernel_rfl) (by kernel_rfl) (by kernel_rfl) (by kernel_rfl) (by kernel_rfl) (by kernel_rfl) (of_decide_eq_true (by kernel_rfl)) (by kernel_rfl) h0
  have k1 := gl_pairs (P := Tryz.prog) (w := w) (g := 2) (t := 248) (e := 247) (n := 16) (k := .u8) (zs := accTab) (by kernel_rfl) (by kernel_rfl) (by kernel_rfl) hs hf ho (by kernel_rfl) (by kernel_rfl) (by kernel_rfl) (of_decide_eq_true (by kernel_rfl)) (by kernel_rfl) (by kernel_rfl) h1
  intro g v hg
  rcases gl_cons hg with ⟨rfl, rfl⟩ | hg
  . exact k0
  rcases gl_cons hg with ⟨rfl, rfl⟩ | hg
  . exact k1
  obtain ⟨rfl, rfl⟩ := gl_one hg
  exact ⟨cell_lt hm, id, m, hm⟩
end Go.Proofs.YtiofbnlbfmbodaaGreatDoor
end
section
namespace Go.Proofs.YtiofbnlbfmbodaaGreatDoor
open Go Go.Vc Go.Pl Go.Proofs
end Go.Proofs.YtiofbnlbfmbodaaGreatDoor
end
