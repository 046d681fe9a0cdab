/- Texts of a verified walk, led together: Ext1A, Ext1W. -/
import Derived.Test.YtiofbnlbfmbodaaGreatDoorZW11
import Derived.Test.YtiofbnlbfmbodaaGreatDoorZV18
set_option linter.unusedVariables false
set_option linter.unusedSimpArgs false
section
namespace Go.Proofs.YtiofbnlbfmbodaaGreatDoor
open Go Go.Vc Go.Pl Go.Proofs
def c_ext_wrap : Con := { args := [.dat I64, .dat (.sl BY)], res := [.own 5 U8], pre := fun x => isTagD x.1 = true ∧ lenF x.2.1 ≤ 16777215, post := fun x y => y.1 = putB (x.1, x.2.1.flatten) }
def c_ext_Subject : Con := { args := [.dat (.arr 20 U8)], res := [.own 5 U8], pre := fun _ => True, post := fun x y => y.1 = SubjectD x.1 }
end Go.Proofs.YtiofbnlbfmbodaaGreatDoor
end
section
namespace Go.Proofs.YtiofbnlbfmbodaaGreatDoor
open Go Go.Vc Go.Pl Go.Proofs
set_option linter.unusedVariables false
set_option linter.unusedSimpArgs false
theorem take20 {n : List Int} (h : n.length = 20) : List.take 20 (List.drop 0 n) = n := by rw [List.drop_zero, List.take_of_length_le (by omega)]
abbrev q289 := (16777215 : Nat)
def t43 : Prop :=
  ∀ (x : Int × List (List Int) × Unit), (wiZ x.1 /\ Kd.wf q91 x.2.1 /\ True) -> isTagD x.1 = true /\ lenF x.2.1 <= q289 -> lenB [] <= (900000000 : Nat) /\ (∀ (y : q0), (q124 y) -> (y.1,
  y.2.1) = PutD [] x.1 (List.flatten x.2.1) -> y.1 = putB (x.1, List.flatten x.2.1)) /\ True
theorem e43 : t43 = Con.vc c_ext_wrap GL (mkEnv ty [(95, conSem c_der_Put)] [] [] [0, 1, 4, 5]) {} Tryz.f43.ntmps Tryz.f43.results.toList (bodyOf Tryz.f43) := by kernel_rfl
theorem k43 : t43 := by
  unfold t43
  delta wiZ q91 q289 q0 q124 q292 wyZ q342
  rintro ⟨t, cs, _⟩ hx hp
  obtain ⟨h1, h2⟩ := hp
  simp only [lenF] at h1 h2
  try dsimp +instances only [dft_int, dft_sl, dft_str]
  simp only [true_and, and_true, eq_self_iff_true, implies_true, reduceCtorEq, false_implies, true_implies, decide_eq_true_eq, decide_eq_false_iff_not, beq_self_eq_true, Bool.not_eq_true', ne_eq, Decidable.not_not, List.nil_append, List.length_singleton, List.length_cons, List.length_nil, Nat.zero_add, Nat.add_zero, Nat.mul_one, and_self, beq_iff_eq, Bool.not_true, Bool.not_false, Bool.not_eq_false', Bool.cond_false_right, Bool.and_eq_true, imp_self, Bool.not_eq_true, Bool.cond_true_left, Bool.or_eq_true]
  refine ⟨by simp [lenB], ?_⟩
  rintro ⟨y, e, _⟩ _ h
  simp only at h ⊢
  rw [put_nil t _ h1 h2] at h
  exact (Prod.mk.inj h).1
theorem h43 : c_ext_wrap.ok Tryz.prog GL 43 := con_ok (H := {}) (mkEnv_ok (gl := GL) (l := [(95, conSem c_der_Put)]) (q := []) (d := []) _ tyOk (by kernel_rfl) ⟨h95.call, trivial⟩ trivial trivial) (by kernel_rfl) (by kernel_rfl) (Eq.mp e43 k43)
def t15 : Prop :=
  ∀ (x : q5), (Kd.wf (Kd.arr (20 : Nat) q24) x.1 /\ True) -> True -> List.length [SV.dat q24 (List.getD x.1 (nat_lit 0) q110), SV.dat q24 (List.getD x.1 (nat_lit 1) q110), SV.dat q24
  (List.getD x.1 (nat_lit 2) q110), SV.dat q24 (List.getD x.1 (nat_lit 3) q110), SV.dat q24 (List.getD x.1 (nat_lit 4) q110), SV.dat q24 (List.getD x.1 (nat_lit 5) q110), SV.dat q24
  (List.getD x.1 (nat_lit 6) q110), SV.dat q24 (List.getD x.1 (nat_lit 7) q110), SV.dat q24 (List.getD x.1 (nat_lit 8) q110), SV.dat q24 (List.getD x.1 (nat_lit 9) q110), SV.dat q24
  (List.getD x.1 (nat_lit 10) q110), SV.dat q24 (List.getD x.1 (nat_lit 11) q110), SV.dat q24 (List.getD x.1 (nat_lit 12) q110), SV.dat q24 (List.getD x.1 (nat_lit 13) q110), SV.dat q24
  (List.getD x.1 (nat_lit 14) q110), SV.dat q24 (List.getD x.1 (nat_lit 15) q110), SV.dat q24 (List.getD x.1 (nat_lit 16) q110), SV.dat q24 (List.getD x.1 (nat_lit 17) q110), SV.dat q24
  (List.getD x.1 (nat_lit 18) q110), SV.dat q24 (List.getD x.1 (nat_lit 19) q110)] <= q55 /\ List.length x.1 = (20 : Nat) /\ (isTagD q58 = true /\ lenF [List.take (20 : Nat) (List.drop q57
  x.1)] <= q289) /\ (∀ (y : q5), (q87 y) -> y.1 = putB (q58, List.flatten [List.take (20 : Nat) (List.drop q57 x.1)]) -> y.1 = SubjectD x.1) /\ True
theorem e15 : t15 = Con.vc c_ext_Subject GL (mkEnv ty [(43, conSem c_ext_wrap)] [] [] [0, 1, 2]) {} Tryz.f15.ntmps Tryz.f15.results.toList (bodyOf Tryz.f15) := by kernel_rfl
theorem k15 : t15 := by
  unfold t15
  delta q5 q24 q110 q55 q58 q57 q289 q87 q342 wyZ
  rintro ⟨n, _⟩ hx hp
  have h20 : n.length = 20 := hx.1.1
  try dsimp +instances only [dft_int, dft_sl, dft_str]
  simp only [true_and, and_true, eq_self_iff_true, implies_true, reduceCtorEq, false_implies, true_implies, decide_eq_true_eq, decide_eq_false_iff_not, beq_self_eq_true, Bool.not_eq_true', ne_eq, Decidable.not_not, List.nil_append, List.length_singleton, List.length_cons, List.length_nil, Nat.zero_add, Nat.add_zero, Nat.mul_one, and_self, beq_iff_eq, Bool.not_true, Bool.not_false, Bool.not_eq_false', Bool.cond_false_right, Bool.and_eq_true, imp_self, Bool.not_eq_true, Bool.cond_true_left, Bool.or_eq_true]
  rw [take20 h20]
  refine ⟨by decide, h20, ⟨by decide, by simp [lenF]; omega⟩, ?_⟩
  rintro ⟨z, _⟩ _ ez
  simp only at ez ⊢
  rw [ez]; simp [SubjectD]
theorem h15 : c_ext_Subject.ok Tryz.prog GL 15 := con_ok (H := {}) (mkEnv_ok (gl := GL) (l := [(43, conSem c_ext_wrap)]) (q := []) (d := []) _ tyOk (by kernel_rfl) ⟨h43.call, trivial⟩ trivial trivial) (by kernel_rfl) (by kernel_rfl) (Eq.mp e15 k15)
end Go.Proofs.YtiofbnlbfmbodaaGreatDoor
end
