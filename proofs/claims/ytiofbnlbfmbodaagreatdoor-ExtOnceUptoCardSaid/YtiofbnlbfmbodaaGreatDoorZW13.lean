/- Texts of a verified walk, led together: Ext2A, Ext2W. -/
import Derived.Test.YtiofbnlbfmbodaaGreatDoorZW12
import Derived.Test.YtiofbnlbfmbodaaGreatDoorZV19
set_option linter.unusedVariables false
set_option linter.unusedSimpArgs false
section
namespace Go.Proofs.YtiofbnlbfmbodaaGreatDoor
open Go Go.Vc Go.Pl Go.Proofs
def c_ext_must : Con := { args := [.dat .bool], res := [], pre := fun _ => True, post := fun x _ => x.1 = true, pan := true, pt := 152, pk := .unit, ppost := fun x _ => x.1 = false }
def c_ext_content : Con := { args := [.dat BY, .dat I64], res := [.dat BY], pre := fun x => lenB x.1 ≤ LIM, post := fun x y => contD x.1 x.2.1 = (y.1, true), pan := true, pt := 152, pk := .unit, ppost := fun x _ => (contD x.1 x.2.1).2 = false }
def c_ext_inside : Con := { args := [.dat BY, .dat I64], res := [.own 116 ET], pre := fun x => lenB x.1 ≤ LIM, post := fun x y => insD x.1 x.2.1 = (y.1, true), pan := true, pt := 152, pk := .unit, ppost := fun x _ => (insD x.1 x.2.1).2 = false }
def c_ext_take : Con := { args := [.dat (.sl ET), .dat I64], res := [.dat BY, .dat .bool, .dat (.sl ET)], pre := fun _ => True, post := fun x y => (y.1, y.2.1, y.2.2.1) = takeE x.1 x.2.1 }
def c_ext_want : Con := { args := [.dat (.sl ET), .dat I64], res := [.dat BY, .dat (.sl ET)], pre := fun _ => True, post := fun x y => takeE x.1 x.2.1 = (y.1, true, y.2.1), pan := true, pt := 152, pk := .unit, ppost := fun x _ => (takeE x.1 x.2.1).2.1 = false }
def c_ext_yes : Con := { args := [.dat (.sl ET)], res := [.dat .bool, .dat (.sl ET)], pre := fun _ => True, post := fun x y => yesE x.1 = (y.1, y.2.1, true), pan := true, pt := 152, pk := .unit, ppost := fun x _ => (yesE x.1).2.2 = false }
def c_ext_id : Con := { args := [.dat BY], res := [.dat (.arr 20 U8)], pre := fun _ => True, post := fun x y => lenB x.1 = 20 ∧ y.1 = x.1, pan := true, pt := 152, pk := .unit, ppost := fun x _ => lenB x.1 ≠ 20 }
def c_ext_ToBasic : Con := { args := [.dat BY], res := [.dat (.pair .bool I64), .dat I64], pre := fun x => lenB x.1 ≤ LIM, post := fun x y => (y.1, y.2.1) = ToBasicD x.1 }
def c_ext_ToUsage : Con := { args := [.dat BY], res := [.dat (.int .u16), .dat I64], pre := fun x => lenB x.1 ≤ LIM, post := fun x y => (y.1, y.2.1) = ToUsageD x.1 }
def c_ext_ToNumber : Con := { args := [.dat BY], res := [.dat I64, .dat I64], pre := fun x => lenB x.1 ≤ LIM, post := fun x y => (y.1, y.2.1) = ToNumberD x.1 }
def c_ext_ToReason : Con := { args := [.dat BY], res := [.dat I64, .dat I64], pre := fun x => lenB x.1 ≤ LIM, post := fun x y => (y.1, y.2.1) = ToReasonD x.1 }
def c_ext_ToSubject : Con := { args := [.dat BY], res := [.dat (.arr 20 U8), .dat I64], pre := fun x => lenB x.1 ≤ LIM, post := fun x y => (y.1, y.2.1) = ToSubjectD x.1 }
def c_ext_ToIssuer : Con := { args := [.dat BY], res := [.dat (.arr 20 U8), .dat I64], pre := fun x => lenB x.1 ≤ LIM, post := fun x y => (y.1, y.2.1) = ToIssuerD x.1 }
end Go.Proofs.YtiofbnlbfmbodaaGreatDoor
end
section
namespace Go.Proofs.YtiofbnlbfmbodaaGreatDoor
open Go Go.Vc Go.Pl Go.Proofs
set_option linter.unusedVariables false
set_option linter.unusedSimpArgs false
abbrev q22 := (List Int × Bool × List (Int × List Int) × Unit)
abbrev q23 := (List (Int × List Int) × Unit)
abbrev q267 (p0 : q18) := (p0.2.2.1 = q332)
abbrev q268 (p0 : q20) := (bif decide ((lnZ p0.1) = q332) then true else decide ((List.getD p0.1 q347 q353).1 ≠ p0.2.1))
abbrev q269 (p0 : q20) := (Kd.wf q387 p0.1 /\ wiZ p0.2.1 /\ True)
abbrev q270 (p0 : q20) := (decide ((lnZ p0.1) = q332) == false)
abbrev q271 (p0 : q22) := (wyZ p0.1 /\ wbZ p0.2.1 /\ Kd.wf q387 p0.2.2.1 /\ True)
abbrev q272 (p0 : q23) := (Kd.wf q387 p0.1 /\ True)
abbrev q273 (p0 : q6) (p1 : Bool × List (Int × List Int) × Unit) := (bif bif decide (q419 p0) then p1.1 else false then decide (q332 <= p0.1) else false)
abbrev q274 (p0 : q6) (p1 : Bool × List (Int × List Int) × Unit) := (bif decide (q419 p0) then p1.1 else false)
abbrev q275 := (Kd.sl q371)
abbrev q276 (p0 : q6) := (bif bif decide (q419 p0) then decide (p0.1 ≠ q332) else false then decide (p0.1 < (512 : Int)) else false)
abbrev q277 (p0 : q6) := (bif decide (q419 p0) then decide (p0.1 ≠ q332) else false)
def t42 : Prop :=
  ∀ (x : q4), (q41 x) -> True -> ((!x.1) = true -> x.1 = false) /\ ((!x.1) = false -> x.1 = true)
theorem e42 : t42 = Con.vc c_ext_must GL (mkEnvO ty [] [] [] [0, 3] [1000000]) {} Tryz.f42.ntmps Tryz.f42.results.toList (bodyOf Tryz.f42) := by kernel_rfl
theorem k42 : t42 := by
  unfold t42
  delta q4 q41 wbZ
  rintro x hx hp
  try dsimp +instances only [dft_int, dft_sl, dft_str]
  first | (simp only [true_and, and_true, eq_self_iff_true, implies_true, reduceCtorEq, false_implies, true_implies, decide_eq_true_eq, decide_eq_false_iff_not, beq_self_eq_true, Bool.not_eq_true', ne_eq, Decidable.not_not, List.nil_append, List.length_singleton, List.length_cons, List.length_nil, Nat.zero_add, Nat.add_zero, Nat.mul_one, and_self, beq_iff_eq, Bool.not_true, Bool.not_false, Bool.not_eq_false', Bool.cond_false_right, Bool.and_eq_true, imp_self, Bool.not_eq_true, Bool.cond_true_left, Bool.or_eq_true]; done) | (simp only [true_and, and_true, eq_self_iff_true, implies_true, reduceCtorEq, false_implies, true_implies, decide_eq_true_eq, decide_eq_false_iff_not, beq_self_eq_true, Bool.not_eq_true', ne_eq, Decidable.not_not, List.nil_append, List.length_singleton, List.length_cons, List.length_nil, Nat.zero_add, Nat.add_zero, Nat.mul_one, and_self, beq_iff_eq, Bool.not_true, Bool.not_false, Bool.not_eq_false', Bool.cond_false_right, Bool.and_eq_true, imp_self, Bool.not_eq_true, Bool.cond_true_left, Bool.or_eq_true]; simp) | simp
theorem h42 : c_ext_must.ok Tryz.prog GL 42 := conO_ok (H := {}) (mkEnvO_ok (gl := GL) (l := []) (q := []) (d := []) _ [1000000] tyOk (by kernel_rfl) trivial trivial trivial) (by kernel_rfl) (by kernel_rfl) (Eq.mp e42 k42)
def t83 : Prop :=
  ∀ (x : q0), (q135 x) -> lenB x.1 <= q252 -> lenB x.1 <= q95 /\ (∀ (y : q17), (q147 y) -> (y.1, y.2.1) = oneD x.1 -> q65 <= q61 /\ (decide (q349 y) = true -> True) /\ (decide (q349 y) = true
  -> (q348 y) = true /\ True) /\ (decide (q349 y) = true -> True) /\ (q146 y) /\ (decide (q349 y) = true -> (q348 y) = true) /\ True /\ (∀ (y_1 : Unit), True -> (q148 y x) = true -> contD x.1
  x.2.1 = (y.1.2, true)) /\ ∀ (y_1 : Unit), Kd.wf Kd.unit y_1 -> (q148 y x) = false -> (contD x.1 x.2.1).2 = false) /\ True
theorem e83 : t83 = Con.vc c_ext_content GL (mkEnvO ty [(102, conSem c_der_One), (42, conSem c_ext_must)] [] [] [0, 1, 4, 5, 6] [1000000]) {} Tryz.f83.ntmps Tryz.f83.results.toList (bodyOf Tryz.f83) := by kernel_rfl
theorem k83 : t83 := by
  unfold t83
  delta q0 q135 q252 q95 q17 q147 q65 q61 q349 q348 q146 q148 wyZ wiZ q365 q421 q425 q451
  rintro ⟨b, t, _⟩ hx hp
  have hp : b.length ≤ 2000000 := hp
  try dsimp +instances only [dft_int, dft_sl, dft_str]
  simp only [true_and, and_true, eq_self_iff_true, implies_true, reduceCtorEq, false_implies, true_implies, decide_eq_true_eq, decide_eq_false_iff_not, beq_self_eq_true, Bool.not_eq_true', ne_eq, Decidable.not_not, List.nil_append, List.length_singleton, List.length_cons, List.length_nil, Nat.zero_add, Nat.add_zero, Nat.mul_one, and_self, beq_iff_eq, Bool.not_true, Bool.not_false, Bool.not_eq_false', Bool.cond_false_right, Bool.and_eq_true, imp_self, Bool.not_eq_true, Bool.cond_true_left, Bool.or_eq_true]
  refine ⟨by show b.length ≤ _; omega, ?_⟩
  rintro ⟨⟨u, c⟩, f, _⟩ _ e
  simp only at e ⊢
  refine ⟨by decide, fun _ h => ?_, fun _ _ h => ?_⟩
  . rw [contD, ← e]
    exact if_pos h
  . rw [contD, ← e, if_neg]
    rintro ⟨h1, h2⟩
    simp only at h1 h2
    rw [h1, h2] at h
    simp at h
theorem h83 : c_ext_content.ok Tryz.prog GL 83 := conO_ok (H := {}) (mkEnvO_ok (gl := GL) (l := [(102, conSem c_der_One), (42, conSem c_ext_must)]) (q := []) (d := []) _ [1000000] tyOk (by kernel_rfl) ⟨h102.call, h42.call, trivial⟩ trivial trivial) (by kernel_rfl) (by kernel_rfl) (Eq.mp e83 k83)
def t50 : Prop :=
  ∀ (x : q0), (q135 x) -> lenB x.1 <= q252 -> lenB x.1 <= q252 /\ (∀ (y : q5), (q96 y) -> contD x.1 x.2.1 = (y.1, true) -> lenB y.1 <= q95 /\ (∀ (y_1 : q18), (q157 y_1) -> (y_1.1, y_1.2.1,
  y_1.2.2.1) = allD y.1 -> True /\ (∀ (y : Unit), True -> decide (q267 y_1) = true -> insD x.1 x.2.1 = (y_1.1, true)) /\ ∀ (y : Unit), Kd.wf Kd.unit y -> decide (q267 y_1) = false -> (insD
  x.1 x.2.1).2 = false) /\ True) /\ ∀ (y : Unit), Kd.wf Kd.unit y -> (contD x.1 x.2.1).2 = false -> (insD x.1 x.2.1).2 = false
theorem e50 : t50 = Con.vc c_ext_inside GL (mkEnvO ty [(83, conSem c_ext_content), (72, conSem c_der_All), (42, conSem c_ext_must)] [] [] [0, 1, 4, 5, 7] [1000000]) {} Tryz.f50.ntmps Tryz.f50.results.toList (bodyOf Tryz.f50) := by kernel_rfl
theorem k50 : t50 := by
  unfold t50
  delta q0 q135 q252 q5 q96 q95 q18 q157 q267 wyZ wiZ q387 q332 q452
  rintro ⟨b, t, _⟩ hx hp
  have hp : b.length ≤ 2000000 := hp
  try dsimp +instances only [dft_int, dft_sl, dft_str]
  simp only [true_and, and_true, eq_self_iff_true, implies_true, reduceCtorEq, false_implies, true_implies, decide_eq_true_eq, decide_eq_false_iff_not, beq_self_eq_true, Bool.not_eq_true', ne_eq, Decidable.not_not, List.nil_append, List.length_singleton, List.length_cons, List.length_nil, Nat.zero_add, Nat.add_zero, Nat.mul_one, and_self, beq_iff_eq, Bool.not_true, Bool.not_false, Bool.not_eq_false', Bool.cond_false_right, Bool.and_eq_true, imp_self, Bool.not_eq_true, Bool.cond_true_left, Bool.or_eq_true]
  refine ⟨hp, ?_, ?_⟩
  . rintro ⟨c, _⟩ _ e
    simp only at e ⊢
    have hl : c.length ≤ 1000000000 := by
      have h1 := contD_len b t
      rw [e] at h1
      simp only at h1
      omega
    refine ⟨hl, ?_⟩
    rintro ⟨l, i, f, _⟩ _ e2
    simp only at e2 ⊢
    have hi := ins_cont (b := b) (t := t) (by rw [e])
    rw [e] at hi
    simp only at hi
    rw [← e2] at hi
    simp only at hi
    rw [hi]
    refine ⟨fun _ h => ?_, fun _ _ h => ?_⟩
    . rw [h]; rfl
    . exact decide_eq_false h
  . intro _ _ h
    rw [ins_none h]
theorem h50 : c_ext_inside.ok Tryz.prog GL 50 := conO_ok (H := {}) (mkEnvO_ok (gl := GL) (l := [(83, conSem c_ext_content), (72, conSem c_der_All), (42, conSem c_ext_must)]) (q := []) (d := []) _ [1000000] tyOk (by kernel_rfl) ⟨h83.call, h72.call, h42.call, trivial⟩ trivial trivial) (by kernel_rfl) (by kernel_rfl) (Eq.mp e50 k50)
def t77 : Prop :=
  ∀ (x : q20), (q269 x) -> True -> (decide ((lnZ x.1) = q332) = false -> True) /\ (decide ((lnZ x.1) = q332) = false -> (q270 x) = true /\ (q34 <= q34 /\ q34 < (lnZ x.1)) /\ True) /\ (decide
  ((lnZ x.1) = q332) = false -> (q270 x) = true /\ True) /\ (decide ((lnZ x.1) = q332) = false -> (q270 x) = true /\ True) /\ (decide ((lnZ x.1) = q332) = false -> True) /\ (decide ((lnZ x.1)
  = q332) = false -> (q270 x) = true /\ (q270 x) = true /\ True) /\ (decide ((lnZ x.1) = q332) = false -> (q270 x) = true) /\ ((q268 x) = true -> ([], false, x.1) = takeE x.1 x.2.1) /\ ((q268
  x) = false -> (q34 <= q34 /\ q34 < (lnZ x.1)) /\ (q34 <= q62 /\ q62 <= (lnZ x.1)) /\ ((List.getD x.1 q347 q353).2, true, List.drop q36 x.1) = takeE x.1 x.2.1)
theorem e77 : t77 = Con.vc c_ext_take GL (mkEnvO ty [] [] [] [0, 1, 4, 5, 6, 17] [1000000]) {} Tryz.f77.ntmps Tryz.f77.results.toList (bodyOf Tryz.f77) := by kernel_rfl
theorem k77 : t77 := by
  unfold t77
  delta q20 q269 lnZ q332 q270 q34 q268 q62 q347 q353 q36 q387 wiZ q452
  rintro ⟨l, t, _⟩ hx hp
  try dsimp +instances only [dft_int, dft_sl, dft_str]
  simp only [true_and, and_true, eq_self_iff_true, implies_true, reduceCtorEq, false_implies, true_implies, decide_eq_true_eq, decide_eq_false_iff_not, beq_self_eq_true, Bool.not_eq_true', ne_eq, Decidable.not_not, List.nil_append, List.length_singleton, List.length_cons, List.length_nil, Nat.zero_add, Nat.add_zero, Nat.mul_one, and_self, beq_iff_eq, Bool.not_true, Bool.not_false, Bool.not_eq_false', Bool.cond_false_right, Bool.and_eq_true, imp_self, Bool.not_eq_true, Bool.cond_true_left, Bool.or_eq_true]
  try simp only
  have hd : ((Kd.int IntKind.i64).pair (Kd.int IntKind.u8).sl).dft = edft := rfl
  rw [hd]
  refine ⟨fun h => ⟨h, by decide, by omega⟩, fun h => ?_, fun h => ?_⟩
  . rw [takeE, if_pos]
    rcases h with h | h
    . exact .inl (List.length_eq_zero_iff.1 (by omega))
    . exact .inr h
  . obtain ⟨h1, h2⟩ := Bool.or_eq_false_iff.1 h
    have h1 := of_decide_eq_false h1
    have h2 : (l.getD 0 edft).1 = t := Classical.not_not.1 (of_decide_eq_false h2)
    have hne : l ≠ [] := fun e => h1 (by rw [e]; rfl)
    refine ⟨⟨by decide, by omega⟩, ⟨by decide, by omega⟩, ?_⟩
    rw [takeE, if_neg]
    rintro (h | h)
    . exact hne h
    . exact h h2
theorem h77 : c_ext_take.ok Tryz.prog GL 77 := conO_ok (H := {}) (mkEnvO_ok (gl := GL) (l := []) (q := []) (d := []) _ [1000000] tyOk (by kernel_rfl) trivial trivial trivial) (by kernel_rfl) (by kernel_rfl) (Eq.mp e77 k77)
def t73 : Prop :=
  ∀ (x : q20), (q269 x) -> True -> True /\ (∀ (y : q22), (q271 y) -> (y.1, y.2.1, y.2.2.1) = takeE x.1 x.2.1 -> True /\ (∀ (y_1 : Unit), True -> y.2.1 = true -> takeE x.1 x.2.1 = (y.1, true,
  y.2.2.1)) /\ ∀ (y_1 : Unit), Kd.wf Kd.unit y_1 -> y.2.1 = false -> (takeE x.1 x.2.1).2.1 = false) /\ True
theorem e73 : t73 = Con.vc c_ext_want GL (mkEnvO ty [(77, conSem c_ext_take), (42, conSem c_ext_must)] [] [] [0, 1, 4, 5, 6, 7, 8] [1000000]) {} Tryz.f73.ntmps Tryz.f73.results.toList (bodyOf Tryz.f73) := by kernel_rfl
theorem k73 : t73 := by
  unfold t73
  delta q20 q269 q22 q271 q387 wiZ wyZ wbZ q452
  rintro ⟨l, t, _⟩ hx hp
  try dsimp +instances only [dft_int, dft_sl, dft_str]
  simp only [true_and, and_true, eq_self_iff_true, implies_true, reduceCtorEq, false_implies, true_implies, decide_eq_true_eq, decide_eq_false_iff_not, beq_self_eq_true, Bool.not_eq_true', ne_eq, Decidable.not_not, List.nil_append, List.length_singleton, List.length_cons, List.length_nil, Nat.zero_add, Nat.add_zero, Nat.mul_one, and_self, beq_iff_eq, Bool.not_true, Bool.not_false, Bool.not_eq_false', Bool.cond_false_right, Bool.and_eq_true, imp_self, Bool.not_eq_true, Bool.cond_true_left, Bool.or_eq_true]
  rintro ⟨c, ok, r, _⟩ _ e
  simp only at e ⊢
  rw [← e]
  exact ⟨fun _ h => by rw [h], fun _ _ h => h⟩
theorem h73 : c_ext_want.ok Tryz.prog GL 73 := conO_ok (H := {}) (mkEnvO_ok (gl := GL) (l := [(77, conSem c_ext_take), (42, conSem c_ext_must)]) (q := []) (d := []) _ [1000000] tyOk (by kernel_rfl) ⟨h77.call, h42.call, trivial⟩ trivial trivial) (by kernel_rfl) (by kernel_rfl) (Eq.mp e73 k73)
def t74 : Prop :=
  ∀ (x : q23), (q272 x) -> True -> True /\ (∀ (y : q22), (q271 y) -> (y.1, y.2.1, y.2.2.1) = takeE x.1 q62 -> (y.2.1 = true -> True /\ (∀ (y_1 : Bool × Int × Unit), (wbZ y_1.1 /\ wiZ y_1.2.1
  /\ True) -> (y_1.1, y_1.2.1) = ToBoolD y.1 -> (decide (y_1.2.1 = q34) = true -> True) /\ (decide (y_1.2.1 = q34) = true -> (decide (y_1.2.1 = q34) == true) = true) /\ True /\ (∀ (y_2 :
  Unit), True -> (bif decide (y_1.2.1 = q34) then y_1.1 else false) = true -> yesE x.1 = (y.2.1, y.2.2.1, true)) /\ ∀ (y : Unit), Kd.wf Kd.unit y -> (bif decide (y_1.2.1 = q34) then y_1.1
  else false) = false -> (yesE x.1).2.2 = false) /\ True) /\ (y.2.1 = false -> yesE x.1 = (y.2.1, y.2.2.1, true))) /\ True
theorem e74 : t74 = Con.vc c_ext_yes GL (mkEnvO ty [(77, conSem c_ext_take), (120, conSem c_num_ToBool), (42, conSem c_ext_must)] [] [] [0, 2, 3, 4, 5, 6, 7, 8, 15] [1000000]) {} Tryz.f74.ntmps Tryz.f74.results.toList (bodyOf Tryz.f74) := by kernel_rfl
theorem k74 : t74 := by
  unfold t74
  delta q23 q272 q22 q271 q62 wbZ wiZ q34 q387 wyZ q452
  rintro ⟨l, _⟩ hx hp
  try dsimp +instances only [dft_int, dft_sl, dft_str]
  simp only [true_and, and_true, eq_self_iff_true, implies_true, reduceCtorEq, false_implies, true_implies, decide_eq_true_eq, decide_eq_false_iff_not, beq_self_eq_true, Bool.not_eq_true', ne_eq, Decidable.not_not, List.nil_append, List.length_singleton, List.length_cons, List.length_nil, Nat.zero_add, Nat.add_zero, Nat.mul_one, and_self, beq_iff_eq, Bool.not_true, Bool.not_false, Bool.not_eq_false', Bool.cond_false_right, Bool.and_eq_true, imp_self, Bool.not_eq_true, Bool.cond_true_left, Bool.or_eq_true]
  rintro ⟨c, ok, r, _⟩ _ e
  simp only at e ⊢
  rw [yesE, ← e]
  refine ⟨fun h => ?_, fun h => ?_⟩
  . subst h
    rintro ⟨v, f, _⟩ _ e2
    simp only at e2 ⊢
    rw [if_neg (by simp), ← e2]
    refine ⟨fun _ h => by rw [h.1, h.2]; rfl, fun _ _ h => ?_⟩
    rw [if_neg]
    intro hc
    obtain ⟨rfl, rfl⟩ := Prod.mk.inj hc
    simp at h
  . subst h
    have := take_false (l := l) (t := 1) (by rw [← e])
    rw [← e] at this
    simp only at this
    rw [if_pos rfl, this]
theorem h74 : c_ext_yes.ok Tryz.prog GL 74 := conO_ok (H := {}) (mkEnvO_ok (gl := GL) (l := [(77, conSem c_ext_take), (120, conSem c_num_ToBool), (42, conSem c_ext_must)]) (q := []) (d := []) _ [1000000] tyOk (by kernel_rfl) ⟨h77.call, h120.call, h42.call, trivial⟩ trivial trivial) (by kernel_rfl) (by kernel_rfl) (Eq.mp e74 k74)
def t91 : Prop :=
  ∀ (x : q5), (q96 x) -> True -> q266 <= q61 /\ True /\ (∀ (y : Unit), True -> decide ((lnZ x.1) = (20 : Int)) = true -> q266 <= List.length x.1 /\ q266 = q266 /\ List.length (List.take q266
  x.1) = q266 /\ lenB x.1 = q266 /\ List.take q266 x.1 = x.1) /\ ∀ (y : Unit), Kd.wf Kd.unit y -> decide ((lnZ x.1) = (20 : Int)) = false -> lenB x.1 ≠ q266
theorem e91 : t91 = Con.vc c_ext_id GL (mkEnvO ty [(42, conSem c_ext_must)] [] [] [0, 2] [1000000]) {} Tryz.f91.ntmps Tryz.f91.results.toList (bodyOf Tryz.f91) := by kernel_rfl
theorem k91 : t91 := by
  unfold t91
  delta q5 q96 q266 q61 lnZ wyZ
  rintro ⟨b, _⟩ hx hp
  try dsimp +instances only [dft_int, dft_sl, dft_str]
  simp only [true_and, and_true, eq_self_iff_true, implies_true, reduceCtorEq, false_implies, true_implies, decide_eq_true_eq, decide_eq_false_iff_not, beq_self_eq_true, Bool.not_eq_true', ne_eq, Decidable.not_not, List.nil_append, List.length_singleton, List.length_cons, List.length_nil, Nat.zero_add, Nat.add_zero, Nat.mul_one, and_self, beq_iff_eq, Bool.not_true, Bool.not_false, Bool.not_eq_false', Bool.cond_false_right, Bool.and_eq_true, imp_self, Bool.not_eq_true, Bool.cond_true_left, Bool.or_eq_true]
  refine ⟨by decide, fun _ h => ?_, fun _ _ h => ?_⟩
  . have h : b.length = 20 := by exact_mod_cast h
    have ht : List.take 20 b = b := List.take_of_length_le (by omega)
    exact ⟨by omega, by rw [ht]; exact h, h, ht⟩
  . intro hc
    have hc : b.length = 20 := hc
    exact h (by exact_mod_cast hc)
theorem h91 : c_ext_id.ok Tryz.prog GL 91 := conO_ok (H := {}) (mkEnvO_ok (gl := GL) (l := [(42, conSem c_ext_must)]) (q := []) (d := []) _ [1000000] tyOk (by kernel_rfl) ⟨h42.call, trivial⟩ trivial trivial) (by kernel_rfl) (by kernel_rfl) (Eq.mp e91 k91)
noncomputable def i121 : DefSem := vcDef (mkEnv ty [] [] [] [0, 1, 2, 4, 5, 8, 15]) {} Tryz.f121.ntmps Tryz.f121.results.toList (bodyOf Tryz.f121)
theorem i121_ok : DefOk Tryz.prog GL 121 i121 := def_ok {} (mkEnv_ok (gl := GL) (l := []) (q := []) (d := []) _ tyOk (by kernel_rfl) trivial trivial trivial) (by kernel_rfl) (by kernel_rfl)
noncomputable def i76 : CallSem := vcFn (mkEnvO ty [(50, conSem c_ext_inside), (74, conSem c_ext_yes), (77, conSem c_ext_take), (78, conSem c_num_ToInt), (42, conSem c_ext_must)] [] [] [0, 1, 2, 3, 4, 5, 6, 7, 8, 24] [1000000]) {} Tryz.f76.ntmps Tryz.f76.results.toList (bodyOf Tryz.f76)
theorem i76_ok : CallOk Tryz.prog GL 76 i76 := inlO_ok {} (mkEnvO_ok (gl := GL) (l := [(50, conSem c_ext_inside), (74, conSem c_ext_yes), (77, conSem c_ext_take), (78, conSem c_num_ToInt), (42, conSem c_ext_must)]) (q := []) (d := []) _ [1000000] tyOk (by kernel_rfl) ⟨h50.call, h74.call, h77.call, h78.call, h42.call, trivial⟩ trivial trivial) (by kernel_rfl) (by kernel_rfl)
noncomputable def i75 : CallSem := vcFn (mkEnv ty [(76, i76)] [] [(121, i121)] [0, 2, 3]) {} Tryz.f75.ntmps Tryz.f75.results.toList (bodyOf Tryz.f75)
theorem i75_ok : CallOk Tryz.prog GL 75 i75 := inl_ok {} (mkEnv_ok (gl := GL) (l := [(76, i76)]) (q := []) (d := [(121, i121)]) _ tyOk (by kernel_rfl) ⟨i76_ok, trivial⟩ trivial ⟨i121_ok, trivial⟩) (by kernel_rfl) (by kernel_rfl)
def t28 : Prop :=
  ∀ (x : q5), (q96 x) -> lenB x.1 <= q252 -> List.length [SV.dat q275 x.1] <= q61 /\ q65 <= q61 /\ q65 <= q61 /\ q36 <= q61 /\ q65 <= q61 /\ q65 <= q61 /\ lenB x.1 <= q252 /\ (∀ (y : q23),
  (q272 y) -> insD x.1 q73 = (y.1, true) -> True /\ (∀ (y_1 : Bool × List q127 × Unit), (wbZ y_1.1 /\ Kd.wf q125 y_1.2.1 /\ True) -> yesE y.1 = (y_1.1, y_1.2.1, true) -> True /\ (∀ (y : q22),
  (q271 y) -> (y.1, y.2.1, y.2.2.1) = takeE y_1.2.1 q67 -> (y.2.1 = true -> True /\ (∀ (y_2 : q6), (q101 y_2) -> (y_2.1, y_2.2.1) = ToIntD y.1 -> (decide (q165 y_2) = true -> True) /\ (q161
  y_2) /\ ((q274 y_2 y_1) = true -> True) /\ ((q274 y_2 y_1) = true -> ((q274 y_2 y_1) == true) = true /\ True) /\ ((q274 y_2 y_1) = true -> ((q274 y_2 y_1) == true) = true) /\ ((q273 y_2
  y_1) = true -> True) /\ ((q273 y_2 y_1) = true -> ((q273 y_2 y_1) == true) = true /\ True) /\ ((q273 y_2 y_1) = true -> ((q273 y_2 y_1) == true) = true) /\ True /\ (∀ (y_3 : Unit), True ->
  (bif bif bif decide (q165 y_2) then y_1.1 else false then decide (q34 <= y_2.1) else false then decide (y_2.1 <= (100 : Int)) else false) = true -> True /\ (∀ (y_4 : Unit), True -> decide
  ((lnZ y.2.2.1) = q34) = true -> ((y_1.1, y_2.1), q34) = ToBasicD x.1) /\ ∀ (y_4 : Unit), Kd.wf Kd.unit y_4 -> decide ((lnZ y.2.2.1) = q34) = false -> q63 <= q61 /\ q65 <= q61 /\ ((false,
  q34), q263) = ToBasicD x.1) /\ ∀ (y : Unit), Kd.wf Kd.unit y -> (bif bif bif decide (q165 y_2) then y_1.1 else false then decide (q34 <= y_2.1) else false then decide (y_2.1 <= (100 : Int))
  else false) = false -> q63 <= q61 /\ q65 <= q61 /\ ((false, q34), q263) = ToBasicD x.1) /\ True) /\ (y.2.1 = false -> True /\ (∀ (y_2 : Unit), True -> decide ((lnZ y.2.2.1) = q34) = true ->
  ((y_1.1, (-1 : Int)), q34) = ToBasicD x.1) /\ ∀ (y_2 : Unit), Kd.wf Kd.unit y_2 -> decide ((lnZ y.2.2.1) = q34) = false -> q63 <= q61 /\ q65 <= q61 /\ ((false, q34), q263) = ToBasicD x.1))
  /\ True) /\ ∀ (y_1 : Unit), Kd.wf Kd.unit y_1 -> (yesE y.1).2.2 = false -> q63 <= q61 /\ q65 <= q61 /\ ((false, q34), q263) = ToBasicD x.1) /\ ∀ (y : Unit), Kd.wf Kd.unit y -> (insD x.1
  q73).2 = false -> q63 <= q61 /\ q65 <= q61 /\ ((false, q34), q263) = ToBasicD x.1
theorem e28 : t28 = Con.vc c_ext_ToBasic GL (mkEnv ty [(75, i75)] [] [] [0, 1, 2, 3]) {} Tryz.f28.ntmps Tryz.f28.results.toList (bodyOf Tryz.f28) := by kernel_rfl
theorem k28 : t28 := by
  unfold t28
  delta q5 q96 q252 q275 q61 q65 q36 q23 q272 q73 q127 wbZ q125 q22 q271 q67 q6 q101 q165 q161 q274 q273 q34 lnZ q63 q263 wyZ q371 q387 q365 wiZ q332 q419 q355 q452 q425 q451
  rintro ⟨b, _⟩ hx hp
  have hp : b.length ≤ 2000000 := hp
  try dsimp +instances only [dft_int, dft_sl, dft_str]
  simp only [true_and, and_true, eq_self_iff_true, implies_true, reduceCtorEq, false_implies, true_implies, decide_eq_true_eq, decide_eq_false_iff_not, beq_self_eq_true, Bool.not_eq_true', ne_eq, Decidable.not_not, List.nil_append, List.length_singleton, List.length_cons, List.length_nil, Nat.zero_add, Nat.add_zero, Nat.mul_one, and_self, beq_iff_eq, Bool.not_true, Bool.not_false, Bool.not_eq_false', Bool.cond_false_right, Bool.and_eq_true, imp_self, Bool.not_eq_true, Bool.cond_true_left, Bool.or_eq_true]
  refine ⟨by decide, by decide, by decide, by decide, by decide, by decide, hp, ?_, ?_⟩
  . rintro ⟨l, _⟩ _ e
    simp only at e ⊢
    rw [toBasic_ins, e]
    refine ⟨?_, fun _ _ h => ⟨by decide, by decide, (basW_bad h).symm⟩⟩
    rintro ⟨ca, r, _⟩ _ e2
    simp only at e2 ⊢
    rintro ⟨p, ok, q, _⟩ _ e3
    simp only at e3 ⊢
    refine ⟨fun h => ?_, fun h => ?_⟩
    . subst h
      rintro ⟨n, f, _⟩ _ e4
      simp only at e4 ⊢
      rw [basW_int e2 e3.symm e4.symm]
      refine ⟨fun _ h => ⟨fun _ h2 => ?_, fun _ _ h2 => ⟨by decide, by decide, ?_⟩⟩, fun _ _ h => ⟨by decide, by decide, ?_⟩⟩
      . have h2 : q = [] := List.length_eq_zero_iff.1 (by omega)
        rw [if_pos ⟨h.1.1.1, h.1.1.2, h.1.2, h.2, h2⟩]
      . rw [if_neg]
        rintro ⟨_, _, _, _, h3⟩
        exact h2 (by rw [h3]; rfl)
      . rw [if_neg]
        rintro ⟨h1, h2, h3, h4, _⟩
        rw [decide_eq_true h1, h2, decide_eq_true h3, decide_eq_true h4] at h
        cases h
    . subst h
      rw [basW_no e2 e3.symm]
      refine ⟨fun _ h2 => ?_, fun _ _ h2 => ⟨by decide, by decide, ?_⟩⟩
      . have h2 : q = [] := List.length_eq_zero_iff.1 (by omega)
        rw [if_pos h2]
      . rw [if_neg]
        intro h3
        exact h2 (by rw [h3]; rfl)
  . intro _ _ h
    exact ⟨by decide, by decide, by rw [toBasic_ins, basW_none h]⟩
theorem h28 : c_ext_ToBasic.ok Tryz.prog GL 28 := con_ok (H := {}) (mkEnv_ok (gl := GL) (l := [(75, i75)]) (q := []) (d := []) _ tyOk (by kernel_rfl) ⟨i75_ok, trivial⟩ trivial trivial) (by kernel_rfl) (by kernel_rfl) (Eq.mp e28 k28)
noncomputable def i124 : DefSem := vcDef (mkEnv ty [] [] [] [0, 1, 2, 4, 5, 8, 15]) {} Tryz.f124.ntmps Tryz.f124.results.toList (bodyOf Tryz.f124)
theorem i124_ok : DefOk Tryz.prog GL 124 i124 := def_ok {} (mkEnv_ok (gl := GL) (l := []) (q := []) (d := []) _ tyOk (by kernel_rfl) trivial trivial trivial) (by kernel_rfl) (by kernel_rfl)
noncomputable def i81 : CallSem := vcFn (mkEnvO ty [(83, conSem c_ext_content), (82, conSem c_num_ToFlags), (42, conSem c_ext_must)] [] [] [0, 1, 2, 3] [1000000]) {} Tryz.f81.ntmps Tryz.f81.results.toList (bodyOf Tryz.f81)
theorem i81_ok : CallOk Tryz.prog GL 81 i81 := inlO_ok {} (mkEnvO_ok (gl := GL) (l := [(83, conSem c_ext_content), (82, conSem c_num_ToFlags), (42, conSem c_ext_must)]) (q := []) (d := []) _ [1000000] tyOk (by kernel_rfl) ⟨h83.call, h82.call, h42.call, trivial⟩ trivial trivial) (by kernel_rfl) (by kernel_rfl)
noncomputable def i80 : CallSem := vcFn (mkEnv ty [(81, i81)] [] [(124, i124)] [0, 2, 3]) {} Tryz.f80.ntmps Tryz.f80.results.toList (bodyOf Tryz.f80)
theorem i80_ok : CallOk Tryz.prog GL 80 i80 := inl_ok {} (mkEnv_ok (gl := GL) (l := [(81, i81)]) (q := []) (d := [(124, i124)]) _ tyOk (by kernel_rfl) ⟨i81_ok, trivial⟩ trivial ⟨i124_ok, trivial⟩) (by kernel_rfl) (by kernel_rfl)
def t30 : Prop :=
  ∀ (x : q5), (q96 x) -> lenB x.1 <= q252 -> List.length [SV.dat q275 x.1] <= q61 /\ q36 <= q61 /\ q36 <= q61 /\ lenB x.1 <= q252 /\ (∀ (y : q5), (q96 y) -> contD x.1 (3 : Int) = (y.1, true)
  -> lenB y.1 <= q252 /\ (∀ (y_1 : q6), (Kd.wf (Kd.int IntKind.u16) y_1.1 /\ wiZ y_1.2.1 /\ True) -> (y_1.1, y_1.2.1) = ToFlagsD y.1 -> (decide (q165 y_1) = true -> True) /\ (q159 y_1) /\
  (q161 y_1) /\ ((q277 y_1) = true -> True) /\ ((q277 y_1) = true -> ((q277 y_1) == true) = true /\ True) /\ ((q277 y_1) = true -> ((q277 y_1) == true) = true) /\ True /\ (∀ (y : Unit), True
  -> (q276 y_1) = true -> (y_1.1, q34) = ToUsageD x.1) /\ ∀ (y : Unit), Kd.wf Kd.unit y -> (q276 y_1) = false -> q63 <= q61 /\ (q34, q263) = ToUsageD x.1) /\ True) /\ ∀ (y : Unit), Kd.wf
  Kd.unit y -> (contD x.1 (3 : Int)).2 = false -> q63 <= q61 /\ (q34, q263) = ToUsageD x.1
theorem e30 : t30 = Con.vc c_ext_ToUsage GL (mkEnv ty [(80, i80)] [] [] [0, 1, 2, 3]) {} Tryz.f30.ntmps Tryz.f30.results.toList (bodyOf Tryz.f30) := by kernel_rfl
theorem k30 : t30 := by
  unfold t30
  delta q5 q96 q252 q275 q61 q36 q6 wiZ q165 q159 q161 q277 q276 q34 q63 q263 wyZ q371 q332 q419 q355
  rintro ⟨b, _⟩ hx hp
  have hp : b.length ≤ 2000000 := hp
  try dsimp +instances only [dft_int, dft_sl, dft_str]
  simp only [true_and, and_true, eq_self_iff_true, implies_true, reduceCtorEq, false_implies, true_implies, decide_eq_true_eq, decide_eq_false_iff_not, beq_self_eq_true, Bool.not_eq_true', ne_eq, Decidable.not_not, List.nil_append, List.length_singleton, List.length_cons, List.length_nil, Nat.zero_add, Nat.add_zero, Nat.mul_one, and_self, beq_iff_eq, Bool.not_true, Bool.not_false, Bool.not_eq_false', Bool.cond_false_right, Bool.and_eq_true, imp_self, Bool.not_eq_true, Bool.cond_true_left, Bool.or_eq_true]
  refine ⟨by decide, by decide, by decide, hp, ?_, ?_⟩
  . rintro ⟨c, _⟩ _ e
    simp only at e ⊢
    have hl : c.length ≤ 2000000 := by
      have h1 := contD_len b 3
      rw [e] at h1
      simp only at h1
      omega
    refine ⟨hl, ?_⟩
    rintro ⟨n, f, _⟩ _ e2
    simp only at e2 ⊢
    rw [ToUsageD, e]
    simp only
    rw [← e2]
    simp only
    refine ⟨fun _ h => ?_, fun _ _ h => ⟨by decide, ?_⟩⟩
    . rw [if_pos ⟨trivial, h.1.1, h.1.2, h.2⟩]
    . rw [if_neg]
      rintro ⟨_, h1, h2, h3⟩
      rw [decide_eq_true h1, decide_eq_true h2, decide_eq_true h3] at h
      cases h
  . intro _ _ h
    refine ⟨by decide, ?_⟩
    rw [ToUsageD, if_neg (by rw [h]; simp)]
theorem h30 : c_ext_ToUsage.ok Tryz.prog GL 30 := con_ok (H := {}) (mkEnv_ok (gl := GL) (l := [(80, i80)]) (q := []) (d := []) _ tyOk (by kernel_rfl) ⟨i80_ok, trivial⟩ trivial trivial) (by kernel_rfl) (by kernel_rfl) (Eq.mp e30 k30)
noncomputable def i128 : DefSem := vcDef (mkEnv ty [] [] [] [0, 1, 2, 4, 5, 8, 15]) {} Tryz.f128.ntmps Tryz.f128.results.toList (bodyOf Tryz.f128)
theorem i128_ok : DefOk Tryz.prog GL 128 i128 := def_ok {} (mkEnv_ok (gl := GL) (l := []) (q := []) (d := []) _ tyOk (by kernel_rfl) trivial trivial trivial) (by kernel_rfl) (by kernel_rfl)
noncomputable def i86 : CallSem := vcFn (mkEnvO ty [(83, conSem c_ext_content), (78, conSem c_num_ToInt), (42, conSem c_ext_must)] [] [] [0, 1, 2, 3] [1000000]) {} Tryz.f86.ntmps Tryz.f86.results.toList (bodyOf Tryz.f86)
theorem i86_ok : CallOk Tryz.prog GL 86 i86 := inlO_ok {} (mkEnvO_ok (gl := GL) (l := [(83, conSem c_ext_content), (78, conSem c_num_ToInt), (42, conSem c_ext_must)]) (q := []) (d := []) _ [1000000] tyOk (by kernel_rfl) ⟨h83.call, h78.call, h42.call, trivial⟩ trivial trivial) (by kernel_rfl) (by kernel_rfl)
noncomputable def i87 : CallSem := vcFn (mkEnvO ty [(83, conSem c_ext_content), (78, conSem c_num_ToInt), (88, conSem c_ext_reason), (42, conSem c_ext_must)] [] [] [0, 1, 2, 3] [1000000]) {} Tryz.f87.ntmps Tryz.f87.results.toList (bodyOf Tryz.f87)
theorem i87_ok : CallOk Tryz.prog GL 87 i87 := inlO_ok {} (mkEnvO_ok (gl := GL) (l := [(83, conSem c_ext_content), (78, conSem c_num_ToInt), (88, conSem c_ext_reason), (42, conSem c_ext_must)]) (q := []) (d := []) _ [1000000] tyOk (by kernel_rfl) ⟨h83.call, h78.call, h88.call, h42.call, trivial⟩ trivial trivial) (by kernel_rfl) (by kernel_rfl)
noncomputable def i85 : CallSem := vcFn (mkEnv ty [(86, i86), (87, i87)] [] [(128, i128)] [0, 2, 3]) {} Tryz.f85.ntmps Tryz.f85.results.toList (bodyOf Tryz.f85)
theorem i85_ok : CallOk Tryz.prog GL 85 i85 := inl_ok {} (mkEnv_ok (gl := GL) (l := [(86, i86), (87, i87)]) (q := []) (d := [(128, i128)]) _ tyOk (by kernel_rfl) ⟨i86_ok, i87_ok, trivial⟩ trivial ⟨i128_ok, trivial⟩) (by kernel_rfl) (by kernel_rfl)
def t32 : Prop :=
  ∀ (x : q5), (q96 x) -> lenB x.1 <= q252 -> List.length [SV.dat q275 x.1] <= q61 /\ q36 <= q61 /\ q36 <= q61 /\ lenB x.1 <= q252 /\ (∀ (y : q5), (q96 y) -> contD x.1 q67 = (y.1, true) ->
  True /\ (∀ (y_1 : q6), (q101 y_1) -> (y_1.1, y_1.2.1) = ToIntD y.1 -> (decide (q165 y_1) = true -> True) /\ (q159 y_1) /\ (q161 y_1) /\ True /\ (∀ (y : Unit), True -> (bif decide (q165 y_1)
  then decide (q34 <= y_1.1) else false) = true -> (y_1.1, q34) = ToNumberD x.1) /\ ∀ (y : Unit), Kd.wf Kd.unit y -> (bif decide (q165 y_1) then decide (q34 <= y_1.1) else false) = false ->
  q63 <= q61 /\ (q34, q263) = ToNumberD x.1) /\ True) /\ ∀ (y : Unit), Kd.wf Kd.unit y -> (contD x.1 q67).2 = false -> q63 <= q61 /\ (q34, q263) = ToNumberD x.1
theorem e32 : t32 = Con.vc c_ext_ToNumber GL (mkEnv ty [(85, i85)] [] [] [0, 1, 2, 3]) {} Tryz.f32.ntmps Tryz.f32.results.toList (bodyOf Tryz.f32) := by kernel_rfl
theorem k32 : t32 := by
  unfold t32
  delta q5 q96 q252 q275 q61 q36 q67 q6 q101 q165 q159 q161 q34 q63 q263 wyZ q371 wiZ q332 q419 q355
  rintro ⟨b, _⟩ hx hp
  have hp : b.length ≤ 2000000 := hp
  try dsimp +instances only [dft_int, dft_sl, dft_str]
  simp only [true_and, and_true, eq_self_iff_true, implies_true, reduceCtorEq, false_implies, true_implies, decide_eq_true_eq, decide_eq_false_iff_not, beq_self_eq_true, Bool.not_eq_true', ne_eq, Decidable.not_not, List.nil_append, List.length_singleton, List.length_cons, List.length_nil, Nat.zero_add, Nat.add_zero, Nat.mul_one, and_self, beq_iff_eq, Bool.not_true, Bool.not_false, Bool.not_eq_false', Bool.cond_false_right, Bool.and_eq_true, imp_self, Bool.not_eq_true, Bool.cond_true_left, Bool.or_eq_true]
  refine ⟨by decide, by decide, by decide, hp, ?_, ?_⟩
  . rintro ⟨c, _⟩ _ e
    simp only at e ⊢
    rintro ⟨n, f, _⟩ _ e2
    simp only at e2 ⊢
    rw [ToNumberD, e]
    simp only
    rw [← e2]
    simp only
    refine ⟨fun _ h => ?_, fun _ _ h => ⟨by decide, ?_⟩⟩
    . rw [if_pos ⟨trivial, h.1, h.2⟩]
    . rw [if_neg]
      rintro ⟨_, h1, h2⟩
      rw [decide_eq_true h1, decide_eq_true h2] at h
      cases h
  . intro _ _ h
    refine ⟨by decide, ?_⟩
    rw [ToNumberD, if_neg (by rw [h]; simp)]
theorem h32 : c_ext_ToNumber.ok Tryz.prog GL 32 := con_ok (H := {}) (mkEnv_ok (gl := GL) (l := [(85, i85)]) (q := []) (d := []) _ tyOk (by kernel_rfl) ⟨i85_ok, trivial⟩ trivial trivial) (by kernel_rfl) (by kernel_rfl) (Eq.mp e32 k32)
def t34 : Prop :=
  ∀ (x : q5), (q96 x) -> lenB x.1 <= q252 -> List.length [SV.dat q275 x.1] <= q61 /\ q36 <= q61 /\ q36 <= q61 /\ lenB x.1 <= q252 /\ (∀ (y : q5), (q96 y) -> contD x.1 (10 : Int) = (y.1, true)
  -> True /\ (∀ (y_1 : q6), (q101 y_1) -> (y_1.1, y_1.2.1) = ToIntD y.1 -> (decide (q165 y_1) = true -> True) /\ (decide (q165 y_1) = true -> (q355 y_1) = true /\ True /\ (∀ (y : q4), (q41 y)
  -> y.1 = reasonK y_1.1 -> True /\ (∀ (y_2 : Unit), True -> y.1 = true -> (y_1.1, q34) = ToReasonD x.1) /\ ∀ (y_2 : Unit), Kd.wf Kd.unit y_2 -> y.1 = false -> q63 <= q61 /\ (q34, q263) =
  ToReasonD x.1) /\ True) /\ (decide (q165 y_1) = !true -> True /\ (∀ (y : Unit), True -> false = true -> (y_1.1, q34) = ToReasonD x.1) /\ ∀ (y : Unit), Kd.wf Kd.unit y -> false = false ->
  q63 <= q61 /\ (q34, q263) = ToReasonD x.1)) /\ True) /\ ∀ (y : Unit), Kd.wf Kd.unit y -> (contD x.1 (10 : Int)).2 = false -> q63 <= q61 /\ (q34, q263) = ToReasonD x.1
theorem e34 : t34 = Con.vc c_ext_ToReason GL (mkEnv ty [(85, i85)] [] [] [0, 1, 2, 3]) {} Tryz.f34.ntmps Tryz.f34.results.toList (bodyOf Tryz.f34) := by kernel_rfl
theorem k34 : t34 := by
  unfold t34
  delta q5 q96 q252 q275 q61 q36 q6 q101 q165 q355 q4 q41 q34 q63 q263 wyZ q371 wiZ q332 q419 wbZ
  rintro ⟨b, _⟩ hx hp
  have hp : b.length ≤ 2000000 := hp
  try dsimp +instances only [dft_int, dft_sl, dft_str]
  simp only [true_and, and_true, eq_self_iff_true, implies_true, reduceCtorEq, false_implies, true_implies, decide_eq_true_eq, decide_eq_false_iff_not, beq_self_eq_true, Bool.not_eq_true', ne_eq, Decidable.not_not, List.nil_append, List.length_singleton, List.length_cons, List.length_nil, Nat.zero_add, Nat.add_zero, Nat.mul_one, and_self, beq_iff_eq, Bool.not_true, Bool.not_false, Bool.not_eq_false', Bool.cond_false_right, Bool.and_eq_true, imp_self, Bool.not_eq_true, Bool.cond_true_left, Bool.or_eq_true]
  refine ⟨by decide, by decide, by decide, hp, ?_, ?_⟩
  . rintro ⟨c, _⟩ _ e
    simp only at e ⊢
    rintro ⟨n, f, _⟩ _ e2
    simp only at e2 ⊢
    rw [ToReasonD, e]
    simp only
    rw [← e2]
    simp only
    refine ⟨fun h => ⟨h, ?_⟩, fun h _ _ => ⟨by decide, ?_⟩⟩
    . rintro ⟨r, _⟩ _ e3
      simp only at e3 ⊢
      subst e3
      refine ⟨fun _ h2 => ?_, fun _ _ h2 => ⟨by decide, ?_⟩⟩
      . rw [if_pos ⟨trivial, h, h2⟩]
      . rw [if_neg]
        rintro ⟨_, _, h3⟩
        rw [h2] at h3; cases h3
    . rw [if_neg]
      rintro ⟨_, h1, _⟩
      exact h h1
  . intro _ _ h
    refine ⟨by decide, ?_⟩
    rw [ToReasonD, if_neg (by rw [h]; simp)]
theorem h34 : c_ext_ToReason.ok Tryz.prog GL 34 := con_ok (H := {}) (mkEnv_ok (gl := GL) (l := [(85, i85)]) (q := []) (d := []) _ tyOk (by kernel_rfl) ⟨i85_ok, trivial⟩ trivial trivial) (by kernel_rfl) (by kernel_rfl) (Eq.mp e34 k34)
noncomputable def i129 : DefSem := vcDef (mkEnv ty [] [] [] [0, 1, 2, 4, 5, 8, 15]) {} Tryz.f129.ntmps Tryz.f129.results.toList (bodyOf Tryz.f129)
theorem i129_ok : DefOk Tryz.prog GL 129 i129 := def_ok {} (mkEnv_ok (gl := GL) (l := []) (q := []) (d := []) _ tyOk (by kernel_rfl) trivial trivial trivial) (by kernel_rfl) (by kernel_rfl)
noncomputable def i90 : CallSem := vcFn (mkEnvO ty [(83, conSem c_ext_content), (91, conSem c_ext_id)] [] [] [0, 1] [1000000]) {} Tryz.f90.ntmps Tryz.f90.results.toList (bodyOf Tryz.f90)
theorem i90_ok : CallOk Tryz.prog GL 90 i90 := inlO_ok {} (mkEnvO_ok (gl := GL) (l := [(83, conSem c_ext_content), (91, conSem c_ext_id)]) (q := []) (d := []) _ [1000000] tyOk (by kernel_rfl) ⟨h83.call, h91.call, trivial⟩ trivial trivial) (by kernel_rfl) (by kernel_rfl)
noncomputable def i92 : CallSem := vcFn (mkEnvO ty [(83, conSem c_ext_content), (91, conSem c_ext_id)] [] [] [0, 1] [1000000]) {} Tryz.f92.ntmps Tryz.f92.results.toList (bodyOf Tryz.f92)
theorem i92_ok : CallOk Tryz.prog GL 92 i92 := inlO_ok {} (mkEnvO_ok (gl := GL) (l := [(83, conSem c_ext_content), (91, conSem c_ext_id)]) (q := []) (d := []) _ [1000000] tyOk (by kernel_rfl) ⟨h83.call, h91.call, trivial⟩ trivial trivial) (by kernel_rfl) (by kernel_rfl)
noncomputable def i89 : CallSem := vcFn (mkEnv ty [(90, i90), (92, i92)] [] [(129, i129)] [0, 2, 3]) {} Tryz.f89.ntmps Tryz.f89.results.toList (bodyOf Tryz.f89)
theorem i89_ok : CallOk Tryz.prog GL 89 i89 := inl_ok {} (mkEnv_ok (gl := GL) (l := [(90, i90), (92, i92)]) (q := []) (d := [(129, i129)]) _ tyOk (by kernel_rfl) ⟨i90_ok, i92_ok, trivial⟩ trivial ⟨i129_ok, trivial⟩) (by kernel_rfl) (by kernel_rfl)
def t36 : Prop :=
  ∀ (x : q5), (q96 x) -> lenB x.1 <= q252 -> List.length [SV.dat q275 x.1] <= q61 /\ q266 <= q61 /\ q266 <= q61 /\ q36 <= q61 /\ q266 <= q61 /\ lenB x.1 <= q252 /\ (∀ (y : q5), (q96 y) ->
  contD x.1 q64 = (y.1, true) -> True /\ (∀ (y_1 : q5), (q265 y_1) -> lenB y.1 = q266 /\ y_1.1 = y.1 -> q266 = q266 /\ List.length y_1.1 = q266 /\ q266 = q266 /\ List.length y_1.1 = q266 /\
  q266 = q266 /\ List.length y_1.1 = q266 /\ (y_1.1, q34) = ToSubjectD x.1) /\ ∀ (y_1 : Unit), Kd.wf Kd.unit y_1 -> lenB y.1 ≠ q266 -> q63 <= q61 /\ q266 <= q61 /\ q266 = q266 /\ q266 = q266
  /\ q266 = q266 /\ q266 = q266 /\ q266 = q266 /\ ([q34, q34, q34, q34, q34, q34, q34, q34, q34, q34, q34, q34, q34, q34, q34, q34, q34, q34, q34, q34], q263) = ToSubjectD x.1) /\ ∀ (y :
  Unit), Kd.wf Kd.unit y -> (contD x.1 q64).2 = false -> q63 <= q61 /\ q266 <= q61 /\ q266 = q266 /\ q266 = q266 /\ q266 = q266 /\ q266 = q266 /\ q266 = q266 /\ ([q34, q34, q34, q34, q34,
  q34, q34, q34, q34, q34, q34, q34, q34, q34, q34, q34, q34, q34, q34, q34], q263) = ToSubjectD x.1
theorem e36 : t36 = Con.vc c_ext_ToSubject GL (mkEnv ty [(89, i89)] [] [] [0, 1, 2, 3]) {} Tryz.f36.ntmps Tryz.f36.results.toList (bodyOf Tryz.f36) := by kernel_rfl
theorem k36 : t36 := by
  unfold t36
  delta q5 q96 q252 q275 q61 q266 q36 q64 q265 q34 q63 q263 wyZ q371
  rintro ⟨b, _⟩ hx hp
  have hp : b.length ≤ 2000000 := hp
  try dsimp +instances only [dft_int, dft_sl, dft_str]
  simp only [true_and, and_true, eq_self_iff_true, implies_true, reduceCtorEq, false_implies, true_implies, decide_eq_true_eq, decide_eq_false_iff_not, beq_self_eq_true, Bool.not_eq_true', ne_eq, Decidable.not_not, List.nil_append, List.length_singleton, List.length_cons, List.length_nil, Nat.zero_add, Nat.add_zero, Nat.mul_one, and_self, beq_iff_eq, Bool.not_true, Bool.not_false, Bool.not_eq_false', Bool.cond_false_right, Bool.and_eq_true, imp_self, Bool.not_eq_true, Bool.cond_true_left, Bool.or_eq_true]
  refine ⟨by decide, by decide, by decide, by decide, by decide, hp, ?_, ?_⟩
  . rintro ⟨c, _⟩ _ e
    simp only at e ⊢
    rw [ToSubjectD, e]
    simp only
    refine ⟨?_, fun _ _ h => ⟨by decide, by decide, ?_⟩⟩
    . rintro ⟨k, _⟩ hk ⟨h1, h2⟩
      have h1 : c.length = 20 := h1
      simp only at h2 ⊢
      subst h2
      exact ⟨h1, h1, h1, by rw [if_pos ⟨trivial, h1⟩]⟩
    . rw [if_neg (fun hc => h hc.2)]
      rfl
  . intro _ _ h
    refine ⟨by decide, by decide, ?_⟩
    rw [ToSubjectD, if_neg (by rw [h]; simp)]
    rfl
theorem h36 : c_ext_ToSubject.ok Tryz.prog GL 36 := con_ok (H := {}) (mkEnv_ok (gl := GL) (l := [(89, i89)]) (q := []) (d := []) _ tyOk (by kernel_rfl) ⟨i89_ok, trivial⟩ trivial trivial) (by kernel_rfl) (by kernel_rfl) (Eq.mp e36 k36)
def t37 : Prop :=
  ∀ (x : q5), (q96 x) -> lenB x.1 <= q252 -> List.length [SV.dat q275 x.1] <= q61 /\ q266 <= q61 /\ q266 <= q61 /\ q36 <= q61 /\ q266 <= q61 /\ lenB x.1 <= q252 /\ (∀ (y : q5), (q96 y) ->
  contD x.1 q73 = (y.1, true) -> lenB y.1 <= q252 /\ (∀ (y_1 : q5), (q96 y_1) -> contD y.1 q75 = (y_1.1, true) -> True /\ (∀ (y : q5), (q265 y) -> lenB y_1.1 = q266 /\ y.1 = y_1.1 -> q266 =
  q266 /\ List.length y.1 = q266 /\ q266 = q266 /\ List.length y.1 = q266 /\ q266 = q266 /\ List.length y.1 = q266 /\ (y.1, q34) = ToIssuerD x.1) /\ ∀ (y : Unit), Kd.wf Kd.unit y -> lenB
  y_1.1 ≠ q266 -> q63 <= q61 /\ q266 <= q61 /\ q266 = q266 /\ q266 = q266 /\ q266 = q266 /\ q266 = q266 /\ q266 = q266 /\ ([q34, q34, q34, q34, q34, q34, q34, q34, q34, q34, q34, q34, q34,
  q34, q34, q34, q34, q34, q34, q34], q263) = ToIssuerD x.1) /\ ∀ (y_1 : Unit), Kd.wf Kd.unit y_1 -> (contD y.1 q75).2 = false -> q63 <= q61 /\ q266 <= q61 /\ q266 = q266 /\ q266 = q266 /\
  q266 = q266 /\ q266 = q266 /\ q266 = q266 /\ ([q34, q34, q34, q34, q34, q34, q34, q34, q34, q34, q34, q34, q34, q34, q34, q34, q34, q34, q34, q34], q263) = ToIssuerD x.1) /\ ∀ (y : Unit),
  Kd.wf Kd.unit y -> (contD x.1 q73).2 = false -> q63 <= q61 /\ q266 <= q61 /\ q266 = q266 /\ q266 = q266 /\ q266 = q266 /\ q266 = q266 /\ q266 = q266 /\ ([q34, q34, q34, q34, q34, q34, q34,
  q34, q34, q34, q34, q34, q34, q34, q34, q34, q34, q34, q34, q34], q263) = ToIssuerD x.1
theorem e37 : t37 = Con.vc c_ext_ToIssuer GL (mkEnv ty [(89, i89)] [] [] [0, 1, 2, 3]) {} Tryz.f37.ntmps Tryz.f37.results.toList (bodyOf Tryz.f37) := by kernel_rfl
theorem k37 : t37 := by
  unfold t37
  delta q5 q96 q252 q275 q61 q266 q36 q73 q75 q265 q34 q63 q263 wyZ q371
  rintro ⟨b, _⟩ hx hp
  have hp : b.length ≤ 2000000 := hp
  try dsimp +instances only [dft_int, dft_sl, dft_str]
  simp only [true_and, and_true, eq_self_iff_true, implies_true, reduceCtorEq, false_implies, true_implies, decide_eq_true_eq, decide_eq_false_iff_not, beq_self_eq_true, Bool.not_eq_true', ne_eq, Decidable.not_not, List.nil_append, List.length_singleton, List.length_cons, List.length_nil, Nat.zero_add, Nat.add_zero, Nat.mul_one, and_self, beq_iff_eq, Bool.not_true, Bool.not_false, Bool.not_eq_false', Bool.cond_false_right, Bool.and_eq_true, imp_self, Bool.not_eq_true, Bool.cond_true_left, Bool.or_eq_true]
  refine ⟨by decide, by decide, by decide, by decide, by decide, hp, ?_, ?_⟩
  . rintro ⟨c, _⟩ _ e
    simp only at e ⊢
    have hl : c.length ≤ 2000000 := by
      have h1 := contD_len b 48
      rw [e] at h1
      simp only at h1
      omega
    refine ⟨hl, ?_, ?_⟩
    . rintro ⟨d, _⟩ _ e2
      simp only at e2 ⊢
      rw [ToIssuerD, e]
      simp only
      rw [e2]
      simp only
      refine ⟨?_, fun _ _ h => ⟨by decide, by decide, ?_⟩⟩
      . rintro ⟨k, _⟩ hk ⟨h1, h2⟩
        have h1 : d.length = 20 := h1
        simp only at h2 ⊢
        subst h2
        exact ⟨h1, h1, h1, by rw [if_pos ⟨trivial, trivial, h1⟩]⟩
      . rw [if_neg (fun hc => h hc.2.2)]
        rfl
    . intro _ _ h
      refine ⟨by decide, by decide, ?_⟩
      rw [ToIssuerD, e]
      simp only
      rw [if_neg (by rw [h]; simp)]
      rfl
  . intro _ _ h
    refine ⟨by decide, by decide, ?_⟩
    rw [ToIssuerD, if_neg (by rw [h]; simp)]
    rfl
theorem h37 : c_ext_ToIssuer.ok Tryz.prog GL 37 := con_ok (H := {}) (mkEnv_ok (gl := GL) (l := [(89, i89)]) (q := []) (d := []) _ tyOk (by kernel_rfl) ⟨i89_ok, trivial⟩ trivial trivial) (by kernel_rfl) (by kernel_rfl) (Eq.mp e37 k37)
end Go.Proofs.YtiofbnlbfmbodaaGreatDoor
end
