/- Texts of a verified walk, led together: Ext2A, Ext2W. -/
import Derived.Test.YtiofbnlbfmbodaaGreatDoorZW12
import Derived.Test.YtiofbnlbfmbodaaGreatDoorZV19
set_option linter.unusedVariables false
set_option linter.unusedSimpArgs false
section
namespace Go.Proofs.YtiofbnlbfmbodaaGreatDoor
open Go Go.Vc Go.Pl Go.Proofs
def c_ext_must : Con := { args := [.dat .bool], res := [], pre := fun _ => True, post := fun x _ => x.1 = true, pan := true, pt := 152, pk := .unit, ppost := fun x _ => x.1 = false }
def c_ext_content : Con := { args := [.dat BY, .dat I64], res := [.dat BY], pre := fun x => lenB x.1 ≤ LIM, post := fun x y => contD x.1 x.2.1 = (y.1, true), pan := true, pt := 152, pk := .unit, ppost := fun x _ => (contD x.1 x.2.1).2 = false }
def c_ext_inside : Con := { args := [.dat BY, .dat I64], res := [.own 116 ET], pre := fun x => lenB x.1 ≤ LIM, post := fun x y => insD x.1 x.2.1 = (y.1, true), pan := true, pt := 152, pk := .unit, ppost := fun x _ => (insD x.1 x.2.1).2 = false }
def c_ext_take : Con := { args := [.dat (.sl ET), .dat I64], res := [.dat BY, .dat .bool, .dat (.sl ET)], pre := fun _ => True, post := fun x y => (y.1, y.2.1, y.2.2.1) = takeE x.1 x.2.1 }
def c_ext_want : Con := { args := [.dat (.sl ET), .dat I64], res := [.dat BY, .dat (.sl ET)], pre := fun _ => True, post := fun x y => takeE x.1 x.2.1 = (y.1, true, y.2.1), pan := true, pt := 152, pk := .unit, ppost := fun x _ => (takeE x.1 x.2.1).2.1 = false }
def c_ext_yes : Con := { args := [.dat (.sl ET)], res := [.dat .bool, .dat (.sl ET)], pre := fun _ => True, post := fun x y => yesE x.1 = (y.1, y.2.1, true), pan := true, pt := 152, pk := .unit, ppost := fun x _ => (yesE x.1).2.2 = false }
end Go.Proofs.YtiofbnlbfmbodaaGreatDoor
end
section
namespace Go.Proofs.YtiofbnlbfmbodaaGreatDoor
open Go Go.Vc Go.Pl Go.Proofs
set_option linter.unusedVariables false
set_option linter.unusedSimpArgs false
abbrev q21 := (List Int × Bool × List (Int × List Int) × Unit)
abbrev q22 := (List (Int × List Int) × Unit)
abbrev q203 := (2000000 : Nat)
abbrev q204 (p0 : q17) := (p0.2.2.1 = q261)
abbrev q205 (p0 : q19) := (bif decide ((lnZ p0.1) = q261) then true else decide ((List.getD p0.1 q277 q284).1 ≠ p0.2.1))
abbrev q206 (p0 : q19) := (Kd.wf q315 p0.1 /\ wiZ p0.2.1 /\ True)
abbrev q207 (p0 : q19) := (decide ((lnZ p0.1) = q261) == false)
abbrev q208 (p0 : q21) := (wyZ p0.1 /\ wbZ p0.2.1 /\ Kd.wf q315 p0.2.2.1 /\ True)
abbrev q209 (p0 : q22) := (Kd.wf q315 p0.1 /\ True)
def t42 : Prop :=
  ∀ (x : q4), (q35 x) -> True -> ((!x.1) = true -> x.1 = false) /\ ((!x.1) = false -> x.1 = true)
theorem e42 : t42 = Con.vc c_ext_must GL (mkEnvO ty [] [] [] [0, 3] [1000000]) {} Tryz.f42.ntmps Tryz.f42.results.toList (bodyOf Tryz.f42) := by kernel_rfl
theorem k42 : t42 := by
  unfold t42
  delta q4 q35 wbZ
  rintro x hx hp
  try dsimp +instances only [dft_int, dft_sl, dft_str]
  first | (simp only [true_and, and_true, eq_self_iff_true, implies_true, reduceCtorEq, false_implies, true_implies, decide_eq_true_eq, decide_eq_false_iff_not, beq_self_eq_true, Bool.not_eq_true', ne_eq, Decidable.not_not, List.nil_append, List.length_singleton, List.length_cons, List.length_nil, Nat.zero_add, Nat.add_zero, Nat.mul_one, and_self, beq_iff_eq, Bool.not_true, Bool.not_false, Bool.not_eq_false', Bool.cond_false_right, Bool.and_eq_true, imp_self, Bool.not_eq_true, Bool.cond_true_left, Bool.or_eq_true]; done) | (simp only [true_and, and_true, eq_self_iff_true, implies_true, reduceCtorEq, false_implies, true_implies, decide_eq_true_eq, decide_eq_false_iff_not, beq_self_eq_true, Bool.not_eq_true', ne_eq, Decidable.not_not, List.nil_append, List.length_singleton, List.length_cons, List.length_nil, Nat.zero_add, Nat.add_zero, Nat.mul_one, and_self, beq_iff_eq, Bool.not_true, Bool.not_false, Bool.not_eq_false', Bool.cond_false_right, Bool.and_eq_true, imp_self, Bool.not_eq_true, Bool.cond_true_left, Bool.or_eq_true]; simp) | simp
theorem h42 : c_ext_must.ok Tryz.prog GL 42 := conO_ok (H := {}) (mkEnvO_ok (gl := GL) (l := []) (q := []) (d := []) _ [1000000] tyOk (by kernel_rfl) trivial trivial trivial) (by kernel_rfl) (by kernel_rfl) (Eq.mp e42 k42)
def t83 : Prop :=
  ∀ (x : q0), (q124 x) -> lenB x.1 <= q203 -> lenB x.1 <= q86 /\ (∀ (y : q16), (q134 y) -> (y.1, y.2.1) = oneD x.1 -> q59 <= q55 /\ (decide (q279 y) = true -> True) /\ (decide (q279 y) = true
  -> (q278 y) = true /\ True) /\ (decide (q279 y) = true -> True) /\ (q133 y) /\ (decide (q279 y) = true -> (q278 y) = true) /\ True /\ (∀ (y_1 : Unit), True -> (q135 y x) = true -> contD x.1
  x.2.1 = (y.1.2, true)) /\ ∀ (y_1 : Unit), Kd.wf Kd.unit y_1 -> (q135 y x) = false -> (contD x.1 x.2.1).2 = false) /\ True
theorem e83 : t83 = Con.vc c_ext_content GL (mkEnvO ty [(102, conSem c_der_One), (42, conSem c_ext_must)] [] [] [0, 1, 4, 5, 6] [1000000]) {} Tryz.f83.ntmps Tryz.f83.results.toList (bodyOf Tryz.f83) := by kernel_rfl
theorem k83 : t83 := by
  unfold t83
  delta q0 q124 q203 q86 q16 q134 q59 q55 q279 q278 q133 q135 wyZ wiZ q291 q340 q343 q377
  rintro ⟨b, t, _⟩ hx hp
  have hp : b.length ≤ 2000000 := hp
  try dsimp +instances only [dft_int, dft_sl, dft_str]
  simp only [true_and, and_true, eq_self_iff_true, implies_true, reduceCtorEq, false_implies, true_implies, decide_eq_true_eq, decide_eq_false_iff_not, beq_self_eq_true, Bool.not_eq_true', ne_eq, Decidable.not_not, List.nil_append, List.length_singleton, List.length_cons, List.length_nil, Nat.zero_add, Nat.add_zero, Nat.mul_one, and_self, beq_iff_eq, Bool.not_true, Bool.not_false, Bool.not_eq_false', Bool.cond_false_right, Bool.and_eq_true, imp_self, Bool.not_eq_true, Bool.cond_true_left, Bool.or_eq_true]
  refine ⟨by show b.length ≤ _; omega, ?_⟩
  rintro ⟨⟨u, c⟩, f, _⟩ _ e
  simp only at e ⊢
  refine ⟨by decide, fun _ h => ?_, fun _ _ h => ?_⟩
  . rw [contD, ← e]
    exact if_pos h
  . rw [contD, ← e, if_neg]
    rintro ⟨h1, h2⟩
    simp only at h1 h2
    rw [h1, h2] at h
    simp at h
theorem h83 : c_ext_content.ok Tryz.prog GL 83 := conO_ok (H := {}) (mkEnvO_ok (gl := GL) (l := [(102, conSem c_der_One), (42, conSem c_ext_must)]) (q := []) (d := []) _ [1000000] tyOk (by kernel_rfl) ⟨h102.call, h42.call, trivial⟩ trivial trivial) (by kernel_rfl) (by kernel_rfl) (Eq.mp e83 k83)
def t50 : Prop :=
  ∀ (x : q0), (q124 x) -> lenB x.1 <= q203 -> lenB x.1 <= q203 /\ (∀ (y : q5), (q87 y) -> contD x.1 x.2.1 = (y.1, true) -> lenB y.1 <= q86 /\ (∀ (y_1 : q17), (q144 y_1) -> (y_1.1, y_1.2.1,
  y_1.2.2.1) = allD y.1 -> True /\ (∀ (y : Unit), True -> decide (q204 y_1) = true -> insD x.1 x.2.1 = (y_1.1, true)) /\ ∀ (y : Unit), Kd.wf Kd.unit y -> decide (q204 y_1) = false -> (insD
  x.1 x.2.1).2 = false) /\ True) /\ ∀ (y : Unit), Kd.wf Kd.unit y -> (contD x.1 x.2.1).2 = false -> (insD x.1 x.2.1).2 = false
theorem e50 : t50 = Con.vc c_ext_inside GL (mkEnvO ty [(83, conSem c_ext_content), (72, conSem c_der_All), (42, conSem c_ext_must)] [] [] [0, 1, 4, 5, 7] [1000000]) {} Tryz.f50.ntmps Tryz.f50.results.toList (bodyOf Tryz.f50) := by kernel_rfl
theorem k50 : t50 := by
  unfold t50
  delta q0 q124 q203 q5 q87 q86 q17 q144 q204 wyZ wiZ q315 q261 q369 q378 q377
  rintro ⟨b, t, _⟩ hx hp
  have hp : b.length ≤ 2000000 := hp
  try dsimp +instances only [dft_int, dft_sl, dft_str]
  simp only [true_and, and_true, eq_self_iff_true, implies_true, reduceCtorEq, false_implies, true_implies, decide_eq_true_eq, decide_eq_false_iff_not, beq_self_eq_true, Bool.not_eq_true', ne_eq, Decidable.not_not, List.nil_append, List.length_singleton, List.length_cons, List.length_nil, Nat.zero_add, Nat.add_zero, Nat.mul_one, and_self, beq_iff_eq, Bool.not_true, Bool.not_false, Bool.not_eq_false', Bool.cond_false_right, Bool.and_eq_true, imp_self, Bool.not_eq_true, Bool.cond_true_left, Bool.or_eq_true]
  refine ⟨hp, ?_, ?_⟩
  . rintro ⟨c, _⟩ _ e
    simp only at e ⊢
    have hl : c.length ≤ 1000000000 := by
      have h1 := contD_len b t
      rw [e] at h1
      simp only at h1
      omega
    refine ⟨hl, ?_⟩
    rintro ⟨l, i, f, _⟩ _ e2
    simp only at e2 ⊢
    have hi := ins_cont (b := b) (t := t) (by rw [e])
    rw [e] at hi
    simp only at hi
    rw [← e2] at hi
    simp only at hi
    rw [hi]
    refine ⟨fun _ h => ?_, fun _ _ h => ?_⟩
    . rw [h]; rfl
    . exact decide_eq_false h
  . intro _ _ h
    rw [ins_none h]
theorem h50 : c_ext_inside.ok Tryz.prog GL 50 := conO_ok (H := {}) (mkEnvO_ok (gl := GL) (l := [(83, conSem c_ext_content), (72, conSem c_der_All), (42, conSem c_ext_must)]) (q := []) (d := []) _ [1000000] tyOk (by kernel_rfl) ⟨h83.call, h72.call, h42.call, trivial⟩ trivial trivial) (by kernel_rfl) (by kernel_rfl) (Eq.mp e50 k50)
def t77 : Prop :=
  ∀ (x : q19), (q206 x) -> True -> (decide ((lnZ x.1) = q261) = false -> True) /\ (decide ((lnZ x.1) = q261) = false -> (q207 x) = true /\ (q28 <= q28 /\ q28 < (lnZ x.1)) /\ True) /\ (decide
  ((lnZ x.1) = q261) = false -> (q207 x) = true /\ True) /\ (decide ((lnZ x.1) = q261) = false -> (q207 x) = true /\ True) /\ (decide ((lnZ x.1) = q261) = false -> True) /\ (decide ((lnZ x.1)
  = q261) = false -> (q207 x) = true /\ (q207 x) = true /\ True) /\ (decide ((lnZ x.1) = q261) = false -> (q207 x) = true) /\ ((q205 x) = true -> ([], false, x.1) = takeE x.1 x.2.1) /\ ((q205
  x) = false -> (q28 <= q28 /\ q28 < (lnZ x.1)) /\ (q28 <= q56 /\ q56 <= (lnZ x.1)) /\ ((List.getD x.1 q277 q284).2, true, List.drop q30 x.1) = takeE x.1 x.2.1)
theorem e77 : t77 = Con.vc c_ext_take GL (mkEnvO ty [] [] [] [0, 1, 4, 5, 6, 17] [1000000]) {} Tryz.f77.ntmps Tryz.f77.results.toList (bodyOf Tryz.f77) := by kernel_rfl
theorem k77 : t77 := by
  unfold t77
  delta q19 q206 lnZ q261 q207 q28 q205 q56 q277 q284 q30 q315 wiZ q369 q378 q377
  rintro ⟨l, t, _⟩ hx hp
  try dsimp +instances only [dft_int, dft_sl, dft_str]
  simp only [true_and, and_true, eq_self_iff_true, implies_true, reduceCtorEq, false_implies, true_implies, decide_eq_true_eq, decide_eq_false_iff_not, beq_self_eq_true, Bool.not_eq_true', ne_eq, Decidable.not_not, List.nil_append, List.length_singleton, List.length_cons, List.length_nil, Nat.zero_add, Nat.add_zero, Nat.mul_one, and_self, beq_iff_eq, Bool.not_true, Bool.not_false, Bool.not_eq_false', Bool.cond_false_right, Bool.and_eq_true, imp_self, Bool.not_eq_true, Bool.cond_true_left, Bool.or_eq_true]
  try simp only
  have hd : ((Kd.int IntKind.i64).pair (Kd.int IntKind.u8).sl).dft = edft := rfl
  rw [hd]
  refine ⟨fun h => ⟨h, by decide, by omega⟩, fun h => ?_, fun h => ?_⟩
  . rw [takeE, if_pos]
    rcases h with h | h
    . exact .inl (List.length_eq_zero_iff.1 (by omega))
    . exact .inr h
  . obtain ⟨h1, h2⟩ := Bool.or_eq_false_iff.1 h
    have h1 := of_decide_eq_false h1
    have h2 : (l.getD 0 edft).1 = t := Classical.not_not.1 (of_decide_eq_false h2)
    have hne : l ≠ [] := fun e => h1 (by rw [e]; rfl)
    refine ⟨⟨by decide, by omega⟩, ⟨by decide, by omega⟩, ?_⟩
    rw [takeE, if_neg]
    rintro (h | h)
    . exact hne h
    . exact h h2
theorem h77 : c_ext_take.ok Tryz.prog GL 77 := conO_ok (H := {}) (mkEnvO_ok (gl := GL) (l := []) (q := []) (d := []) _ [1000000] tyOk (by kernel_rfl) trivial trivial trivial) (by kernel_rfl) (by kernel_rfl) (Eq.mp e77 k77)
def t73 : Prop :=
  ∀ (x : q19), (q206 x) -> True -> True /\ (∀ (y : q21), (q208 y) -> (y.1, y.2.1, y.2.2.1) = takeE x.1 x.2.1 -> True /\ (∀ (y_1 : Unit), True -> y.2.1 = true -> takeE x.1 x.2.1 = (y.1, true,
  y.2.2.1)) /\ ∀ (y_1 : Unit), Kd.wf Kd.unit y_1 -> y.2.1 = false -> (takeE x.1 x.2.1).2.1 = false) /\ True
theorem e73 : t73 = Con.vc c_ext_want GL (mkEnvO ty [(77, conSem c_ext_take), (42, conSem c_ext_must)] [] [] [0, 1, 4, 5, 6, 7, 8] [1000000]) {} Tryz.f73.ntmps Tryz.f73.results.toList (bodyOf Tryz.f73) := by kernel_rfl
theorem k73 : t73 := by
  unfold t73
  delta q19 q206 q21 q208 q315 wiZ wyZ wbZ q369 q378 q377
  rintro ⟨l, t, _⟩ hx hp
  try dsimp +instances only [dft_int, dft_sl, dft_str]
  simp only [true_and, and_true, eq_self_iff_true, implies_true, reduceCtorEq, false_implies, true_implies, decide_eq_true_eq, decide_eq_false_iff_not, beq_self_eq_true, Bool.not_eq_true', ne_eq, Decidable.not_not, List.nil_append, List.length_singleton, List.length_cons, List.length_nil, Nat.zero_add, Nat.add_zero, Nat.mul_one, and_self, beq_iff_eq, Bool.not_true, Bool.not_false, Bool.not_eq_false', Bool.cond_false_right, Bool.and_eq_true, imp_self, Bool.not_eq_true, Bool.cond_true_left, Bool.or_eq_true]
  rintro ⟨c, ok, r, _⟩ _ e
  simp only at e ⊢
  rw [← e]
  exact ⟨fun _ h => by rw [h], fun _ _ h => h⟩
theorem h73 : c_ext_want.ok Tryz.prog GL 73 := conO_ok (H := {}) (mkEnvO_ok (gl := GL) (l := [(77, conSem c_ext_take), (42, conSem c_ext_must)]) (q := []) (d := []) _ [1000000] tyOk (by kernel_rfl) ⟨h77.call, h42.call, trivial⟩ trivial trivial) (by kernel_rfl) (by kernel_rfl) (Eq.mp e73 k73)
def t74 : Prop :=
  ∀ (x : q22), (q209 x) -> True -> True /\ (∀ (y : q21), (q208 y) -> (y.1, y.2.1, y.2.2.1) = takeE x.1 q56 -> (y.2.1 = true -> True /\ (∀ (y_1 : Bool × Int × Unit), (wbZ y_1.1 /\ wiZ y_1.2.1
  /\ True) -> (y_1.1, y_1.2.1) = ToBoolD y.1 -> (decide (y_1.2.1 = q28) = true -> True) /\ (decide (y_1.2.1 = q28) = true -> (decide (y_1.2.1 = q28) == true) = true) /\ True /\ (∀ (y_2 :
  Unit), True -> (bif decide (y_1.2.1 = q28) then y_1.1 else false) = true -> yesE x.1 = (y.2.1, y.2.2.1, true)) /\ ∀ (y : Unit), Kd.wf Kd.unit y -> (bif decide (y_1.2.1 = q28) then y_1.1
  else false) = false -> (yesE x.1).2.2 = false) /\ True) /\ (y.2.1 = false -> yesE x.1 = (y.2.1, y.2.2.1, true))) /\ True
theorem e74 : t74 = Con.vc c_ext_yes GL (mkEnvO ty [(77, conSem c_ext_take), (120, conSem c_num_ToBool), (42, conSem c_ext_must)] [] [] [0, 2, 3, 4, 5, 6, 7, 8, 15] [1000000]) {} Tryz.f74.ntmps Tryz.f74.results.toList (bodyOf Tryz.f74) := by kernel_rfl
theorem k74 : t74 := by
  unfold t74
  delta q22 q209 q21 q208 q56 wbZ wiZ q28 q315 wyZ q369 q378 q377
  rintro ⟨l, _⟩ hx hp
  try dsimp +instances only [dft_int, dft_sl, dft_str]
  simp only [true_and, and_true, eq_self_iff_true, implies_true, reduceCtorEq, false_implies, true_implies, decide_eq_true_eq, decide_eq_false_iff_not, beq_self_eq_true, Bool.not_eq_true', ne_eq, Decidable.not_not, List.nil_append, List.length_singleton, List.length_cons, List.length_nil, Nat.zero_add, Nat.add_zero, Nat.mul_one, and_self, beq_iff_eq, Bool.not_true, Bool.not_false, Bool.not_eq_false', Bool.cond_false_right, Bool.and_eq_true, imp_self, Bool.not_eq_true, Bool.cond_true_left, Bool.or_eq_true]
  rintro ⟨c, ok, r, _⟩ _ e
  simp only at e ⊢
  rw [yesE, ← e]
  refine ⟨fun h => ?_, fun h => ?_⟩
  . subst h
    rintro ⟨v, f, _⟩ _ e2
    simp only at e2 ⊢
    rw [if_neg (by simp), ← e2]
    refine ⟨fun _ h => by rw [h.1, h.2]; rfl, fun _ _ h => ?_⟩
    rw [if_neg]
    intro hc
    obtain ⟨rfl, rfl⟩ := Prod.mk.inj hc
    simp at h
  . subst h
    have := take_false (l := l) (t := 1) (by rw [← e])
    rw [← e] at this
    simp only at this
    rw [if_pos rfl, this]
theorem h74 : c_ext_yes.ok Tryz.prog GL 74 := conO_ok (H := {}) (mkEnvO_ok (gl := GL) (l := [(77, conSem c_ext_take), (120, conSem c_num_ToBool), (42, conSem c_ext_must)]) (q := []) (d := []) _ [1000000] tyOk (by kernel_rfl) ⟨h77.call, h120.call, h42.call, trivial⟩ trivial trivial) (by kernel_rfl) (by kernel_rfl) (Eq.mp e74 k74)
end Go.Proofs.YtiofbnlbfmbodaaGreatDoor
end
