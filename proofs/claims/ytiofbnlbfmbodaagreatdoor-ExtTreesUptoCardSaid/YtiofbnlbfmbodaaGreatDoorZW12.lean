/- Texts of a verified walk, led together: Ext1A, Ext1W. -/
import Derived.Test.YtiofbnlbfmbodaaGreatDoorZW11
import Derived.Test.YtiofbnlbfmbodaaGreatDoorZV18
set_option linter.unusedVariables false
set_option linter.unusedSimpArgs false
section
namespace Go.Proofs.YtiofbnlbfmbodaaGreatDoor
open Go Go.Vc Go.Pl Go.Proofs
def c_ext_wrap : Con := { args := [.dat I64, .dat (.sl BY)], res := [.own 5 U8], pre := fun x => isTagD x.1 = true ∧ lenF x.2.1 ≤ 16777215, post := fun x y => y.1 = putB (x.1, x.2.1.flatten) }
def c_ext_Subject : Con := { args := [.dat (.arr 20 U8)], res := [.own 5 U8], pre := fun _ => True, post := fun x y => y.1 = SubjectD x.1 }
def c_r15_Put : Con := { args := [.dat I64, .dat BY], res := [.own 5 U8], pre := fun x => 0 ≤ x.1 ∧ x.1 ≤ 255 ∧ lenB x.2.1 ≤ 16777215, post := fun x y => y.1 = putB (x.1, x.2.1) }
end Go.Proofs.YtiofbnlbfmbodaaGreatDoor
end
section
namespace Go.Proofs.YtiofbnlbfmbodaaGreatDoor
open Go Go.Vc Go.Pl Go.Proofs
set_option linter.unusedVariables false
set_option linter.unusedSimpArgs false
theorem take20 {n : List Int} (h : n.length = 20) : List.take 20 (List.drop 0 n) = n := by rw [List.drop_zero, List.take_of_length_le (by omega)]
def t43 : Prop :=
  ∀ (x : Int × List (List Int) × Unit), (wiZ x.1 /\ Kd.wf q164 x.2.1 /\ True) -> isTagD x.1 = true /\ lenF x.2.1 <= q197 -> lenB [] <= (900000000 : Nat) /\ (∀ (y : q0), (q222 y) -> (y.1,
  y.2.1) = PutD [] x.1 (List.flatten x.2.1) -> y.1 = putB (x.1, List.flatten x.2.1)) /\ True
theorem e43 : t43 = Con.vc c_ext_wrap GL (mkEnv ty [(95, conSem c_der_Put)] [] [] [0, 1, 4, 5]) {} Tryz.f43.ntmps Tryz.f43.results.toList (bodyOf Tryz.f43) := by kernel_rfl
theorem k43 : t43 := by
  unfold t43
  delta wiZ q164 q197 q0 q222 q404 wyZ q488
  rintro ⟨t, cs, _⟩ hx hp
  obtain ⟨h1, h2⟩ := hp
  simp only [lenF] at h1 h2
  try dsimp +instances only [dft_int, dft_sl, dft_str]
  simp only [true_and, and_true, eq_self_iff_true, implies_true, reduceCtorEq, false_implies, true_implies, decide_eq_true_eq, decide_eq_false_iff_not, beq_self_eq_true, Bool.not_eq_true', ne_eq, Decidable.not_not, List.nil_append, List.length_singleton, List.length_cons, List.length_nil, Nat.zero_add, Nat.add_zero, Nat.mul_one, and_self, beq_iff_eq, Bool.not_true, Bool.not_false, Bool.not_eq_false', Bool.cond_false_right, Bool.and_eq_true, imp_self, Bool.not_eq_true, Bool.cond_true_left, Bool.or_eq_true]
  refine ⟨by simp [lenB], ?_⟩
  rintro ⟨y, e, _⟩ _ h
  simp only at h ⊢
  rw [put_nil t _ h1 h2] at h
  exact (Prod.mk.inj h).1
theorem h43 : c_ext_wrap.ok Tryz.prog GL 43 := con_ok (H := {}) (mkEnv_ok (gl := GL) (l := [(95, conSem c_der_Put)]) (q := []) (d := []) _ tyOk (by kernel_rfl) ⟨h95.call, trivial⟩ trivial trivial) (by kernel_rfl) (by kernel_rfl) (Eq.mp e43 k43)
def t15 : Prop :=
  ∀ (x : q5), (Kd.wf (Kd.arr (20 : Nat) q35) x.1 /\ True) -> True -> List.length [SV.dat q35 (List.getD x.1 (nat_lit 0) q205), SV.dat q35 (List.getD x.1 (nat_lit 1) q205), SV.dat q35
  (List.getD x.1 (nat_lit 2) q205), SV.dat q35 (List.getD x.1 (nat_lit 3) q205), SV.dat q35 (List.getD x.1 (nat_lit 4) q205), SV.dat q35 (List.getD x.1 (nat_lit 5) q205), SV.dat q35
  (List.getD x.1 (nat_lit 6) q205), SV.dat q35 (List.getD x.1 (nat_lit 7) q205), SV.dat q35 (List.getD x.1 (nat_lit 8) q205), SV.dat q35 (List.getD x.1 (nat_lit 9) q205), SV.dat q35
  (List.getD x.1 (nat_lit 10) q205), SV.dat q35 (List.getD x.1 (nat_lit 11) q205), SV.dat q35 (List.getD x.1 (nat_lit 12) q205), SV.dat q35 (List.getD x.1 (nat_lit 13) q205), SV.dat q35
  (List.getD x.1 (nat_lit 14) q205), SV.dat q35 (List.getD x.1 (nat_lit 15) q205), SV.dat q35 (List.getD x.1 (nat_lit 16) q205), SV.dat q35 (List.getD x.1 (nat_lit 17) q205), SV.dat q35
  (List.getD x.1 (nat_lit 18) q205), SV.dat q35 (List.getD x.1 (nat_lit 19) q205)] <= q69 /\ List.length x.1 = (20 : Nat) /\ (isTagD q73 = true /\ lenF [List.take (20 : Nat) (List.drop q71
  x.1)] <= q197) /\ (∀ (y : q5), (q160 y) -> y.1 = putB (q73, List.flatten [List.take (20 : Nat) (List.drop q71 x.1)]) -> y.1 = SubjectD x.1) /\ True
theorem e15 : t15 = Con.vc c_ext_Subject GL (mkEnv ty [(43, conSem c_ext_wrap)] [] [] [0, 1, 2]) {} Tryz.f15.ntmps Tryz.f15.results.toList (bodyOf Tryz.f15) := by kernel_rfl
theorem k15 : t15 := by
  unfold t15
  delta q5 q35 q205 q69 q73 q71 q197 q160 q488 wyZ
  rintro ⟨n, _⟩ hx hp
  have h20 : n.length = 20 := hx.1.1
  try dsimp +instances only [dft_int, dft_sl, dft_str]
  simp only [true_and, and_true, eq_self_iff_true, implies_true, reduceCtorEq, false_implies, true_implies, decide_eq_true_eq, decide_eq_false_iff_not, beq_self_eq_true, Bool.not_eq_true', ne_eq, Decidable.not_not, List.nil_append, List.length_singleton, List.length_cons, List.length_nil, Nat.zero_add, Nat.add_zero, Nat.mul_one, and_self, beq_iff_eq, Bool.not_true, Bool.not_false, Bool.not_eq_false', Bool.cond_false_right, Bool.and_eq_true, imp_self, Bool.not_eq_true, Bool.cond_true_left, Bool.or_eq_true]
  rw [take20 h20]
  refine ⟨by decide, h20, ⟨by decide, by simp [lenF]; omega⟩, ?_⟩
  rintro ⟨z, _⟩ _ ez
  simp only at ez ⊢
  rw [ez]; simp [SubjectD]
theorem h15 : c_ext_Subject.ok Tryz.prog GL 15 := con_ok (H := {}) (mkEnv_ok (gl := GL) (l := [(43, conSem c_ext_wrap)]) (q := []) (d := []) _ tyOk (by kernel_rfl) ⟨h43.call, trivial⟩ trivial trivial) (by kernel_rfl) (by kernel_rfl) (Eq.mp e15 k15)
def t45 : Prop :=
  ∀ (x : q12), (wiZ x.1 /\ wyZ x.2.1 /\ True) -> q40 <= x.1 /\ x.1 <= q395 /\ lenB x.2.1 <= q197 -> (lenB x.2.1 <= q197 /\ q40 <= x.1 /\ x.1 <= q395) /\ (∀ (y : q5), (q160 y) -> y.1 = putB
  (x.1, x.2.1) -> y.1 = putB (x.1, x.2.1)) /\ True
theorem e45 : t45 = Con.vc c_r15_Put GL (mkEnv ty [(100, conSem c_r01_Bytes)] [] [] [0, 1, 4]) {} Tryz.f45.ntmps Tryz.f45.results.toList (bodyOf Tryz.f45) := by kernel_rfl
theorem k45 : t45 := by
  unfold t45
  delta q12 wiZ wyZ q40 q395 q197 q5 q160
  rintro ⟨t, c, _⟩ hx hp
  try dsimp +instances only [dft_int, dft_sl, dft_str]
  simp only [true_and, and_true, eq_self_iff_true, implies_true, reduceCtorEq, false_implies, true_implies, decide_eq_true_eq, decide_eq_false_iff_not, beq_self_eq_true, Bool.not_eq_true', ne_eq, Decidable.not_not, List.nil_append, List.length_singleton, List.length_cons, List.length_nil, Nat.zero_add, Nat.add_zero, Nat.mul_one, and_self, beq_iff_eq, Bool.not_true, Bool.not_false, Bool.not_eq_false', Bool.cond_false_right, Bool.and_eq_true, imp_self, Bool.not_eq_true, Bool.cond_true_left, Bool.or_eq_true]
  exact ⟨hp.2.2, hp.1, hp.2.1⟩
theorem h45 : c_r15_Put.ok Tryz.prog GL 45 := con_ok (H := {}) (mkEnv_ok (gl := GL) (l := [(100, conSem c_r01_Bytes)]) (q := []) (d := []) _ tyOk (by kernel_rfl) ⟨h100.call, trivial⟩ trivial trivial) (by kernel_rfl) (by kernel_rfl) (Eq.mp e45 k45)
end Go.Proofs.YtiofbnlbfmbodaaGreatDoor
end
