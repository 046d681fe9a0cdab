/- Texts of a verified walk, led together: Ext2A, Ext2W. -/
import Derived.Test.YtiofbnlbfmbodaaGreatDoorZW12
import Derived.Test.YtiofbnlbfmbodaaGreatDoorZV19
set_option linter.unusedVariables false
set_option linter.unusedSimpArgs false
section
namespace Go.Proofs.YtiofbnlbfmbodaaGreatDoor
open Go Go.Vc Go.Pl Go.Proofs
def c_ext_must : Con := { args := [.dat .bool], res := [], pre := fun _ => True, post := fun x _ => x.1 = true, pan := true, pt := 152, pk := .unit, ppost := fun x _ => x.1 = false }
def c_ext_content : Con := { args := [.dat BY, .dat I64], res := [.dat BY], pre := fun x => lenB x.1 ≤ LIM, post := fun x y => contD x.1 x.2.1 = (y.1, true), pan := true, pt := 152, pk := .unit, ppost := fun x _ => (contD x.1 x.2.1).2 = false }
def c_ext_inside : Con := { args := [.dat BY, .dat I64], res := [.own 116 ET], pre := fun x => lenB x.1 ≤ LIM, post := fun x y => insD x.1 x.2.1 = (y.1, true), pan := true, pt := 152, pk := .unit, ppost := fun x _ => (insD x.1 x.2.1).2 = false }
def c_ext_take : Con := { args := [.dat (.sl ET), .dat I64], res := [.dat BY, .dat .bool, .dat (.sl ET)], pre := fun _ => True, post := fun x y => (y.1, y.2.1, y.2.2.1) = takeE x.1 x.2.1 }
end Go.Proofs.YtiofbnlbfmbodaaGreatDoor
end
section
namespace Go.Proofs.YtiofbnlbfmbodaaGreatDoor
open Go Go.Vc Go.Pl Go.Proofs
set_option linter.unusedVariables false
set_option linter.unusedSimpArgs false
abbrev q349 := (2000000 : Nat)
abbrev q350 (p0 : q28) := (bif decide ((lnZ p0.1) = q379) then true else decide ((List.getD p0.1 q402 q412).1 ≠ p0.2.1))
abbrev q351 (p0 : q28) := (decide ((lnZ p0.1) = q379) == false)
def t42 : Prop :=
  ∀ (x : q4), (q47 x) -> True -> ((!x.1) = true -> x.1 = false) /\ ((!x.1) = false -> x.1 = true)
theorem e42 : t42 = Con.vc c_ext_must GL (mkEnvO ty [] [] [] [0, 3] [1000000]) {} Tryz.f42.ntmps Tryz.f42.results.toList (bodyOf Tryz.f42) := by kernel_rfl
theorem k42 : t42 := by
  unfold t42
  delta q4 q47 wbZ
  rintro x hx hp
  try dsimp +instances only [dft_int, dft_sl, dft_str]
  first | (simp only [true_and, and_true, eq_self_iff_true, implies_true, reduceCtorEq, false_implies, true_implies, decide_eq_true_eq, decide_eq_false_iff_not, beq_self_eq_true, Bool.not_eq_true', ne_eq, Decidable.not_not, List.nil_append, List.length_singleton, List.length_cons, List.length_nil, Nat.zero_add, Nat.add_zero, Nat.mul_one, and_self, beq_iff_eq, Bool.not_true, Bool.not_false, Bool.not_eq_false', Bool.cond_false_right, Bool.and_eq_true, imp_self, Bool.not_eq_true, Bool.cond_true_left, Bool.or_eq_true]; done) | (simp only [true_and, and_true, eq_self_iff_true, implies_true, reduceCtorEq, false_implies, true_implies, decide_eq_true_eq, decide_eq_false_iff_not, beq_self_eq_true, Bool.not_eq_true', ne_eq, Decidable.not_not, List.nil_append, List.length_singleton, List.length_cons, List.length_nil, Nat.zero_add, Nat.add_zero, Nat.mul_one, and_self, beq_iff_eq, Bool.not_true, Bool.not_false, Bool.not_eq_false', Bool.cond_false_right, Bool.and_eq_true, imp_self, Bool.not_eq_true, Bool.cond_true_left, Bool.or_eq_true]; simp) | simp
theorem h42 : c_ext_must.ok Tryz.prog GL 42 := conO_ok (H := {}) (mkEnvO_ok (gl := GL) (l := []) (q := []) (d := []) _ [1000000] tyOk (by kernel_rfl) trivial trivial trivial) (by kernel_rfl) (by kernel_rfl) (Eq.mp e42 k42)
def t83 : Prop :=
  ∀ (x : q0), (q222 x) -> lenB x.1 <= q349 -> lenB x.1 <= q84 /\ (∀ (y : q22), (q225 y) -> (y.1, y.2.1) = oneD x.1 -> q74 <= q69 /\ (decide (q406 y) = true -> True) /\ (decide (q406 y) = true
  -> (q405 y) = true /\ True) /\ (decide (q406 y) = true -> True) /\ (q224 y) /\ (decide (q406 y) = true -> (q405 y) = true) /\ True /\ (∀ (y_1 : Unit), True -> (q226 y x) = true -> contD x.1
  x.2.1 = (y.1.2, true)) /\ ∀ (y_1 : Unit), Kd.wf Kd.unit y_1 -> (q226 y x) = false -> (contD x.1 x.2.1).2 = false) /\ True
theorem e83 : t83 = Con.vc c_ext_content GL (mkEnvO ty [(102, conSem c_der_One), (42, conSem c_ext_must)] [] [] [0, 1, 4, 5, 6] [1000000]) {} Tryz.f83.ntmps Tryz.f83.results.toList (bodyOf Tryz.f83) := by kernel_rfl
theorem k83 : t83 := by
  unfold t83
  delta q0 q222 q349 q84 q22 q225 q74 q69 q406 q405 q224 q226 wyZ wiZ q403 q482 q494
  rintro ⟨b, t, _⟩ hx hp
  have hp : b.length ≤ 2000000 := hp
  try dsimp +instances only [dft_int, dft_sl, dft_str]
  simp only [true_and, and_true, eq_self_iff_true, implies_true, reduceCtorEq, false_implies, true_implies, decide_eq_true_eq, decide_eq_false_iff_not, beq_self_eq_true, Bool.not_eq_true', ne_eq, Decidable.not_not, List.nil_append, List.length_singleton, List.length_cons, List.length_nil, Nat.zero_add, Nat.add_zero, Nat.mul_one, and_self, beq_iff_eq, Bool.not_true, Bool.not_false, Bool.not_eq_false', Bool.cond_false_right, Bool.and_eq_true, imp_self, Bool.not_eq_true, Bool.cond_true_left, Bool.or_eq_true]
  refine ⟨by show b.length ≤ _; omega, ?_⟩
  rintro ⟨⟨u, c⟩, f, _⟩ _ e
  simp only at e ⊢
  refine ⟨by decide, fun _ h => ?_, fun _ _ h => ?_⟩
  . rw [contD, ← e]
    exact if_pos h
  . rw [contD, ← e, if_neg]
    rintro ⟨h1, h2⟩
    simp only at h1 h2
    rw [h1, h2] at h
    simp at h
theorem h83 : c_ext_content.ok Tryz.prog GL 83 := conO_ok (H := {}) (mkEnvO_ok (gl := GL) (l := [(102, conSem c_der_One), (42, conSem c_ext_must)]) (q := []) (d := []) _ [1000000] tyOk (by kernel_rfl) ⟨h102.call, h42.call, trivial⟩ trivial trivial) (by kernel_rfl) (by kernel_rfl) (Eq.mp e83 k83)
def t50 : Prop :=
  ∀ (x : q0), (q222 x) -> lenB x.1 <= q349 -> lenB x.1 <= q349 /\ (∀ (y : q5), (q160 y) -> contD x.1 x.2.1 = (y.1, true) -> lenB y.1 <= q84 /\ (∀ (y_1 : q23), (q234 y_1) -> (y_1.1, y_1.2.1,
  y_1.2.2.1) = allD y.1 -> True /\ (∀ (y : Unit), True -> decide (q235 y_1) = true -> insD x.1 x.2.1 = (y_1.1, true)) /\ ∀ (y : Unit), Kd.wf Kd.unit y -> decide (q235 y_1) = false -> (insD
  x.1 x.2.1).2 = false) /\ True) /\ ∀ (y : Unit), Kd.wf Kd.unit y -> (contD x.1 x.2.1).2 = false -> (insD x.1 x.2.1).2 = false
theorem e50 : t50 = Con.vc c_ext_inside GL (mkEnvO ty [(83, conSem c_ext_content), (72, conSem c_der_All), (42, conSem c_ext_must)] [] [] [0, 1, 4, 5, 7] [1000000]) {} Tryz.f50.ntmps Tryz.f50.results.toList (bodyOf Tryz.f50) := by kernel_rfl
theorem k50 : t50 := by
  unfold t50
  delta q0 q222 q349 q5 q160 q84 q23 q234 q235 wyZ wiZ q450 q379 q512
  rintro ⟨b, t, _⟩ hx hp
  have hp : b.length ≤ 2000000 := hp
  try dsimp +instances only [dft_int, dft_sl, dft_str]
  simp only [true_and, and_true, eq_self_iff_true, implies_true, reduceCtorEq, false_implies, true_implies, decide_eq_true_eq, decide_eq_false_iff_not, beq_self_eq_true, Bool.not_eq_true', ne_eq, Decidable.not_not, List.nil_append, List.length_singleton, List.length_cons, List.length_nil, Nat.zero_add, Nat.add_zero, Nat.mul_one, and_self, beq_iff_eq, Bool.not_true, Bool.not_false, Bool.not_eq_false', Bool.cond_false_right, Bool.and_eq_true, imp_self, Bool.not_eq_true, Bool.cond_true_left, Bool.or_eq_true]
  refine ⟨hp, ?_, ?_⟩
  . rintro ⟨c, _⟩ _ e
    simp only at e ⊢
    have hl : c.length ≤ 1000000000 := by
      have h1 := contD_len b t
      rw [e] at h1
      simp only at h1
      omega
    refine ⟨hl, ?_⟩
    rintro ⟨l, i, f, _⟩ _ e2
    simp only at e2 ⊢
    have hi := ins_cont (b := b) (t := t) (by rw [e])
    rw [e] at hi
    simp only at hi
    rw [← e2] at hi
    simp only at hi
    rw [hi]
    refine ⟨fun _ h => ?_, fun _ _ h => ?_⟩
    . rw [h]; rfl
    . exact decide_eq_false h
  . intro _ _ h
    rw [ins_none h]
theorem h50 : c_ext_inside.ok Tryz.prog GL 50 := conO_ok (H := {}) (mkEnvO_ok (gl := GL) (l := [(83, conSem c_ext_content), (72, conSem c_der_All), (42, conSem c_ext_must)]) (q := []) (d := []) _ [1000000] tyOk (by kernel_rfl) ⟨h83.call, h72.call, h42.call, trivial⟩ trivial trivial) (by kernel_rfl) (by kernel_rfl) (Eq.mp e50 k50)
def t77 : Prop :=
  ∀ (x : q28), (Kd.wf q192 x.1 /\ wiZ x.2.1 /\ True) -> True -> (decide ((lnZ x.1) = q379) = false -> True) /\ (decide ((lnZ x.1) = q379) = false -> (q351 x) = true /\ (q40 <= q40 /\ q40 <
  (lnZ x.1)) /\ True) /\ (decide ((lnZ x.1) = q379) = false -> (q351 x) = true /\ True) /\ (decide ((lnZ x.1) = q379) = false -> (q351 x) = true /\ True) /\ (decide ((lnZ x.1) = q379) = false
  -> True) /\ (decide ((lnZ x.1) = q379) = false -> (q351 x) = true /\ (q351 x) = true /\ True) /\ (decide ((lnZ x.1) = q379) = false -> (q351 x) = true) /\ ((q350 x) = true -> ([], false,
  x.1) = takeE x.1 x.2.1) /\ ((q350 x) = false -> (q40 <= q40 /\ q40 < (lnZ x.1)) /\ (q40 <= q72 /\ q72 <= (lnZ x.1)) /\ ((List.getD x.1 q402 q412).2, true, List.drop q42 x.1) = takeE x.1
  x.2.1)
theorem e77 : t77 = Con.vc c_ext_take GL (mkEnvO ty [] [] [] [0, 1, 4, 5, 6, 17] [1000000]) {} Tryz.f77.ntmps Tryz.f77.results.toList (bodyOf Tryz.f77) := by kernel_rfl
theorem k77 : t77 := by
  unfold t77
  delta q28 q192 wiZ lnZ q379 q351 q40 q350 q72 q402 q412 q42 q403 q512 q494
  rintro ⟨l, t, _⟩ hx hp
  try dsimp +instances only [dft_int, dft_sl, dft_str]
  simp only [true_and, and_true, eq_self_iff_true, implies_true, reduceCtorEq, false_implies, true_implies, decide_eq_true_eq, decide_eq_false_iff_not, beq_self_eq_true, Bool.not_eq_true', ne_eq, Decidable.not_not, List.nil_append, List.length_singleton, List.length_cons, List.length_nil, Nat.zero_add, Nat.add_zero, Nat.mul_one, and_self, beq_iff_eq, Bool.not_true, Bool.not_false, Bool.not_eq_false', Bool.cond_false_right, Bool.and_eq_true, imp_self, Bool.not_eq_true, Bool.cond_true_left, Bool.or_eq_true]
  try simp only
  have hd : ((Kd.int IntKind.i64).pair (Kd.int IntKind.u8).sl).dft = edft := rfl
  rw [hd]
  refine ⟨fun h => ⟨h, by decide, by omega⟩, fun h => ?_, fun h => ?_⟩
  . rw [takeE, if_pos]
    rcases h with h | h
    . exact .inl (List.length_eq_zero_iff.1 (by omega))
    . exact .inr h
  . obtain ⟨h1, h2⟩ := Bool.or_eq_false_iff.1 h
    have h1 := of_decide_eq_false h1
    have h2 : (l.getD 0 edft).1 = t := Classical.not_not.1 (of_decide_eq_false h2)
    have hne : l ≠ [] := fun e => h1 (by rw [e]; rfl)
    refine ⟨⟨by decide, by omega⟩, ⟨by decide, by omega⟩, ?_⟩
    rw [takeE, if_neg]
    rintro (h | h)
    . exact hne h
    . exact h h2
theorem h77 : c_ext_take.ok Tryz.prog GL 77 := conO_ok (H := {}) (mkEnvO_ok (gl := GL) (l := []) (q := []) (d := []) _ [1000000] tyOk (by kernel_rfl) trivial trivial trivial) (by kernel_rfl) (by kernel_rfl) (Eq.mp e77 k77)
end Go.Proofs.YtiofbnlbfmbodaaGreatDoor
end
