/- Texts of a verified walk, led together: NumA, NumW. -/
import Derived.Test.YtiofbnlbfmbodaaGreatDoorZW10
import Derived.Test.YtiofbnlbfmbodaaGreatDoorZV17
import Derived.Test.YtiofbnlbfmbodaaGreatDoorZV10
set_option linter.unusedVariables false
set_option linter.unusedSimpArgs false
section
namespace Go.Proofs.YtiofbnlbfmbodaaGreatDoor
open Go Go.Vc Go.Pl Go.Proofs
def c_num_Bool : Con := { args := [.dat .bool], res := [.own 5 U8], pre := fun _ => True, post := fun x y => y.1 = BoolD x.1 }
def c_num_ToBool : Con := { args := [.dat BY], res := [.dat .bool, .dat I64], pre := fun _ => True, post := fun x y => (y.1, y.2.1) = ToBoolD x.1 }
end Go.Proofs.YtiofbnlbfmbodaaGreatDoor
end
section
namespace Go.Proofs.YtiofbnlbfmbodaaGreatDoor
open Go Go.Vc Go.Pl Go.Proofs
abbrev q328 (p0 : q5) := (List.getD p0.1 q348 q370 ≠ q340)
abbrev q197 (p0 : q5) := ((decide ((lnZ p0.1) ≠ q288) == false && decide ((lnZ p0.1) ≠ q288) == false) = true -> decide (q328 p0) = true -> (decide ((lnZ p0.1) ≠ q288) == false && decide
  ((lnZ p0.1) ≠ q288) == false && decide (q328 p0) == true) = true /\ True)
abbrev q198 (p0 : q5) := (bif decide ((lnZ p0.1) ≠ q288) then true else bif decide (q328 p0) then decide (List.getD p0.1 q277 q303 ≠ (255 : Int)) else false)
abbrev q199 (p0 : q5) := (decide ((lnZ p0.1) ≠ q288) == false && decide ((lnZ p0.1) ≠ q288) == false && decide (q328 p0) == true)
abbrev q200 (p0 : q5) := (decide ((lnZ p0.1) ≠ q288) == false && decide ((lnZ p0.1) ≠ q288) == false)
abbrev q201 (p0 : q5) := (List.getD p0.1 q277 q303 ≠ q261)
abbrev q202 (p0 : q5) := ((lnZ p0.1) ≠ q288)
def t69 : Prop :=
  ∀ (x : q4), (q35 x) -> True -> (x.1 = true -> [(255 : Int)] = BoolD x.1) /\ (x.1 = false -> [q28] = BoolD x.1)
theorem e69 : t69 = Con.vc c_num_Bool GL (mkEnv ty [] [] [] [0, 2, 3]) {} Tryz.f69.ntmps Tryz.f69.results.toList (bodyOf Tryz.f69) := by kernel_rfl
theorem k69 : t69 := by
  unfold t69
  delta q4 q35 q28 wbZ
  intro x _ _
  exact ⟨fun h => by rw [h]; rfl, fun h => by rw [h]; rfl⟩
theorem h69 : c_num_Bool.ok Tryz.prog GL 69 := con_ok (H := {}) (mkEnv_ok (gl := GL) (l := []) (q := []) (d := []) _ tyOk (by kernel_rfl) trivial trivial trivial) (by kernel_rfl) (by kernel_rfl) (Eq.mp e69 k69)
def t120 : Prop :=
  ∀ (x : q5), (q87 x) -> True -> (decide (q202 x) = false -> True) /\ (decide (q202 x) = false -> (decide (q202 x) == false) = true /\ (q52 x) /\ True) /\ (decide (q202 x) = false -> (decide
  (q202 x) == false) = true /\ True) /\ (decide (q202 x) = false -> (decide (q202 x) == false) = true /\ True) /\ (decide (q202 x) = false -> True) /\ ((q200 x) = true -> decide (q201 x) =
  true -> True) /\ ((q200 x) = true -> decide (q201 x) = true -> (q199 x) = true /\ (q52 x) /\ True) /\ (q197 x) /\ (q197 x) /\ (decide (q202 x) = false -> (q200 x) = true /\ (decide (q201 x)
  = true -> (q199 x) = true) /\ True) /\ (decide (q202 x) = false -> (decide (q202 x) == false) = true) /\ ((q198 x) = true -> (false, (20 : Int)) = ToBoolD x.1) /\ ((q198 x) = false -> (q52
  x) /\ (decide (List.getD x.1 q57 q110 = (255 : Int)), q28) = ToBoolD x.1)
theorem e120 : t120 = Con.vc c_num_ToBool GL (mkEnv ty [] [] [] [0, 2, 3, 18]) {} Tryz.f120.ntmps Tryz.f120.results.toList (bodyOf Tryz.f120) := by kernel_rfl
theorem k120 : t120 := by
  unfold t120
  delta q5 q87 q202 q52 q200 q201 q199 q197 q198 q57 q110 q28 wyZ lnZ q288 q261 q277 q303 q328 q342 q348 q370 q340
  rintro ⟨l, _⟩ hx hp
  try dsimp +instances only [dft_int, dft_sl, dft_str]
  simp only [true_and, and_true, eq_self_iff_true, implies_true, reduceCtorEq, false_implies, true_implies, decide_eq_true_eq, decide_eq_false_iff_not, beq_self_eq_true, Bool.not_eq_true', ne_eq, Decidable.not_not, List.nil_append, List.length_singleton, List.length_cons, List.length_nil, Nat.zero_add, Nat.add_zero, Nat.mul_one, and_self, beq_iff_eq, Bool.not_true, Bool.not_false, Bool.not_eq_false', Bool.cond_false_right, Bool.and_eq_true, imp_self, Bool.not_eq_true, Bool.cond_true_left, Bool.or_eq_true]
  rcases l with _ | ⟨a, _ | ⟨b, r⟩⟩
  . simp [ToBoolD]
  . by_cases ha : a = 255
    . subst ha; simp [ToBoolD]
    . by_cases h0 : a = 0
      . subst h0; simp [ToBoolD]
      . simp [ToBoolD, ha, h0]
  . simp [ToBoolD]
    omega
theorem h120 : c_num_ToBool.ok Tryz.prog GL 120 := con_ok (H := {}) (mkEnv_ok (gl := GL) (l := []) (q := []) (d := []) _ tyOk (by kernel_rfl) trivial trivial trivial) (by kernel_rfl) (by kernel_rfl) (Eq.mp e120 k120)
end Go.Proofs.YtiofbnlbfmbodaaGreatDoor
end
