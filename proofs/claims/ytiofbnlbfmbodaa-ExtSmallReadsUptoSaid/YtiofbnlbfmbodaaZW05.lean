/- Texts of a verified walk, led together: Ext2A, Ext2W, Law15rA, Law15rW. -/
import Derived.Test.YtiofbnlbfmbodaaZW04
import Derived.Test.YtiofbnlbfmbodaaZV09
set_option linter.unusedVariables false
set_option linter.unusedSimpArgs false
section
namespace Go.Proofs.Ytiofbnlbfmbodaa
open Go Go.Vc Go.Pl Go.Proofs
def c_ext_must : Con := { args := [.dat .bool], res := [], pre := fun _ => True, post := fun x _ => x.1 = true, pan := true, pt := 128, pk := .unit, ppost := fun x _ => x.1 = false }
def c_ext_content : Con := { args := [.dat BY, .dat I64], res := [.dat BY], pre := fun x => lenB x.1 ≤ LIM, post := fun x y => contD x.1 x.2.1 = (y.1, true), pan := true, pt := 128, pk := .unit, ppost := fun x _ => (contD x.1 x.2.1).2 = false }
def c_ext_inside : Con := { args := [.dat BY, .dat I64], res := [.own 84 ET], pre := fun x => lenB x.1 ≤ LIM, post := fun x y => insD x.1 x.2.1 = (y.1, true), pan := true, pt := 128, pk := .unit, ppost := fun x _ => (insD x.1 x.2.1).2 = false }
def c_ext_take : Con := { args := [.dat (.sl ET), .dat I64], res := [.dat BY, .dat .bool, .dat (.sl ET)], pre := fun _ => True, post := fun x y => (y.1, y.2.1, y.2.2.1) = takeE x.1 x.2.1 }
def c_ext_yes : Con := { args := [.dat (.sl ET)], res := [.dat .bool, .dat (.sl ET)], pre := fun _ => True, post := fun x y => yesE x.1 = (y.1, y.2.1, true), pan := true, pt := 128, pk := .unit, ppost := fun x _ => (yesE x.1).2.2 = false }
def c_ext_id : Con := { args := [.dat BY], res := [.dat (.arr 20 U8)], pre := fun _ => True, post := fun x y => lenB x.1 = 20 ∧ y.1 = x.1, pan := true, pt := 128, pk := .unit, ppost := fun x _ => lenB x.1 ≠ 20 }
def c_ext_ToBasic : Con := { args := [.dat BY], res := [.dat (.pair .bool I64), .dat I64], pre := fun x => lenB x.1 ≤ LIM, post := fun x y => (y.1, y.2.1) = ToBasicD x.1 }
def c_ext_ToUsage : Con := { args := [.dat BY], res := [.dat (.int .u16), .dat I64], pre := fun x => lenB x.1 ≤ LIM, post := fun x y => (y.1, y.2.1) = ToUsageD x.1 }
def c_ext_ToNumber : Con := { args := [.dat BY], res := [.dat I64, .dat I64], pre := fun x => lenB x.1 ≤ LIM, post := fun x y => (y.1, y.2.1) = ToNumberD x.1 }
def c_ext_ToReason : Con := { args := [.dat BY], res := [.dat I64, .dat I64], pre := fun x => lenB x.1 ≤ LIM, post := fun x y => (y.1, y.2.1) = ToReasonD x.1 }
def c_ext_ToSubject : Con := { args := [.dat BY], res := [.dat (.arr 20 U8), .dat I64], pre := fun x => lenB x.1 ≤ LIM, post := fun x y => (y.1, y.2.1) = ToSubjectD x.1 }
def c_ext_ToIssuer : Con := { args := [.dat BY], res := [.dat (.arr 20 U8), .dat I64], pre := fun x => lenB x.1 ≤ LIM, post := fun x y => (y.1, y.2.1) = ToIssuerD x.1 }
def c_r15_ToBasic : Con := { args := [.dat BY], res := [.dat (.pair .bool I64), .dat I64], pre := fun x => lenB x.1 ≤ LIM, post := fun x y => (y.1, y.2.1) = ToBasicD x.1 }
def c_r15_ToUsage : Con := { args := [.dat BY], res := [.dat (.int .u16), .dat I64], pre := fun x => lenB x.1 ≤ LIM, post := fun x y => (y.1, y.2.1) = ToUsageD x.1 }
def c_r15_ToNumber : Con := { args := [.dat BY], res := [.dat I64, .dat I64], pre := fun x => lenB x.1 ≤ LIM, post := fun x y => (y.1, y.2.1) = ToNumberD x.1 }
def c_r15_ToReason : Con := { args := [.dat BY], res := [.dat I64, .dat I64], pre := fun x => lenB x.1 ≤ LIM, post := fun x y => (y.1, y.2.1) = ToReasonD x.1 }
def c_r15_ToKey : Con := { args := [.dat BY, .dat I64], res := [.dat (.arr 20 U8), .dat I64], pre := fun x => lenB x.1 ≤ LIM, post := fun x y => (y.1, y.2.1) = if x.2.1 = 1 then ToIssuerD x.1 else ToSubjectD x.1 }
end Go.Proofs.Ytiofbnlbfmbodaa
end
section
namespace Go.Proofs.Ytiofbnlbfmbodaa
open Go Go.Vc Go.Pl Go.Proofs
set_option linter.unusedVariables false
set_option linter.unusedSimpArgs false
abbrev q10 := (Int × Int × Unit -> (Bool × Int × Unit) × Unit -> Prop)
abbrev q11 := (Int × Int × Unit -> (Bool × Int × Unit) × Unit -> Nat)
abbrev q139 (p0 : List (Int × List Int) × Int × Unit) := (bif decide ((lnZ p0.1) = q179) then true else decide ((List.getD p0.1 q182 (Kd.dft q183)).1 ≠ p0.2.1))
abbrev q140 (p0 : List (Int × List Int) × Int × Unit) := (decide ((lnZ p0.1) = q179) == false)
abbrev q141 (p0 : q4) (p1 : Bool × List (Int × List Int) × Unit) := (bif bif decide (p0.2.1 = q179) then p1.1 else false then decide (q179 <= p0.1) else false)
abbrev q142 (p0 : q4) := (decide (p0.2.1 = q179) = true -> (decide (p0.2.1 = q179) == true) = true)
abbrev q143 (p0 : q4) (p1 : Bool × List (Int × List Int) × Unit) := (bif decide (p0.2.1 = q179) then p1.1 else false)
abbrev q144 (p0 : q4) := (p0.2.1 = q179)
abbrev q145 (p0 : q4) := (bif bif decide (p0.2.1 = q179) then decide (p0.1 ≠ q179) else false then decide (p0.1 < (512 : Int)) else false)
abbrev q146 (p0 : q4) := (bif decide (p0.2.1 = q179) then decide (p0.1 ≠ q179) else false)
abbrev q147 (p0 : q9) := (decide (q185 p0) = true -> (decide (q185 p0) == true) = true /\ (decide (q185 p0) == true) = true /\ True)
abbrev q148 (p0 : q9) := (decide (q185 p0) = true -> (decide (q185 p0) == true) = true /\ True)
abbrev q149 (p0 : q9) (p1 : q1) := (bif decide (q185 p0) then decide (p0.1 = p1.1) else false)
abbrev q208 (p0 : q9) (p1 : q4) := (bif decide (p0.2.1 ≠ (0 : Int)) then true else decide (p1.2.1 ≠ (0 : Int)))
abbrev q150 (p0 : q9) (p1 : q4) := ((q208 p0 p1) = false -> ((q208 p0 p1) == false) = true /\ True)
abbrev q151 (p0 : q9) (p1 : q4) := ((q208 p0 p1) == false)
abbrev q152 (p0 : q9) (p1 : q4) := (bif decide (p0.2.1 ≠ q179) then true else decide (p1.2.1 ≠ q179))
abbrev q153 (p0 : q1) (p1 : q9) := (decide (p0.1 ≠ p1.1) = false -> q207 = q207 /\ q207 = q207 /\ q207 = q207 /\ ([q179, q179, q179, q179, q179, q179, q179, q179, q179, q179, q179, q179,
  q179, q179, q179, q179, q179, q179, q179, q179], q179) = if p1.2.1 = q193 then ToIssuerD p1.1 else ToSubjectD p1.1)
abbrev q154 (p0 : q1) (p1 : q9) (p2 : List Int × List Int × Unit) := (decide (p0.1 ≠ p1.1) = true -> List.length p2.1 = q207 /\ q207 = q207 /\ ([q179, q179, q179, q179, q179, q179, q179,
  q179, q179, q179, q179, q179, q179, q179, q179, q179, q179, q179, q179, q179], (150 : Int)) = if p1.2.1 = q193 then ToIssuerD p1.1 else ToSubjectD p1.1)
abbrev q155 (p0 : q1) (p1 : q9) := (decide (p0.1 ≠ p1.1) = true -> q207 = q207 /\ q207 = q207 /\ ([q179, q179, q179, q179, q179, q179, q179, q179, q179, q179, q179, q179, q179, q179, q179,
  q179, q179, q179, q179, q179], (150 : Int)) = if p1.2.1 = q193 then ToIssuerD p1.1 else ToSubjectD p1.1)
abbrev q156 (p0 : q1) (p1 : q9) (p2 : List Int × List Int × Unit) := (decide (p0.1 ≠ p1.1) = false -> List.length p2.2.1 = q207 /\ List.length p2.1 = q207 /\ List.length p2.2.1 = q207 /\
  (p2.2.1, q179) = if p1.2.1 = q193 then ToIssuerD p1.1 else ToSubjectD p1.1)
def t44 : Prop :=
  ∀ (x : q7), (wbZ x.1 /\ True) -> True -> ((!x.1) = true -> x.1 = false) /\ ((!x.1) = false -> x.1 = true)
theorem e44 : t44 = Con.vc c_ext_must GL (mkEnvO ty [] [] [] [0, 3] [1000000]) {} Try.f44.ntmps Try.f44.results.toList (bodyOf Try.f44) := by kernel_rfl
theorem k44 : t44 := by
  unfold t44
  delta q7 wbZ
  rintro x hx hp
  try dsimp +instances only [dft_int, dft_sl, dft_str]
  first | (simp only [true_and, and_true, eq_self_iff_true, implies_true, reduceCtorEq, false_implies, true_implies, decide_eq_true_eq, decide_eq_false_iff_not, beq_self_eq_true, Bool.not_eq_true', ne_eq, Decidable.not_not, List.nil_append, List.length_singleton, List.length_cons, List.length_nil, Nat.zero_add, Nat.add_zero, Nat.mul_one, and_self, beq_iff_eq, Bool.not_true, Bool.not_false, Bool.not_eq_false', Bool.cond_false_right, Bool.and_eq_true, imp_self, Bool.not_eq_true, Bool.cond_true_left, Bool.or_eq_true]; done) | (simp only [true_and, and_true, eq_self_iff_true, implies_true, reduceCtorEq, false_implies, true_implies, decide_eq_true_eq, decide_eq_false_iff_not, beq_self_eq_true, Bool.not_eq_true', ne_eq, Decidable.not_not, List.nil_append, List.length_singleton, List.length_cons, List.length_nil, Nat.zero_add, Nat.add_zero, Nat.mul_one, and_self, beq_iff_eq, Bool.not_true, Bool.not_false, Bool.not_eq_false', Bool.cond_false_right, Bool.and_eq_true, imp_self, Bool.not_eq_true, Bool.cond_true_left, Bool.or_eq_true]; simp) | simp
theorem h44 : c_ext_must.ok Try.prog GL 44 := conO_ok (H := {}) (mkEnvO_ok (gl := GL) (l := []) (q := []) (d := []) _ [1000000] tyOk (by kernel_rfl) trivial trivial trivial) (by kernel_rfl) (by kernel_rfl) (Eq.mp e44 k44)
def t60 : Prop :=
  ∀ (x : q9), (q117 x) -> lenB x.1 <= q121 -> lenB x.1 <= q26 /\ (∀ (y : q69 × Int × Unit), (Kd.wf q183 y.1 /\ wiZ y.2.1 /\ True) -> (y.1, y.2.1) = oneD x.1 -> q62 <= q64 /\ (decide (y.2.1 =
  q21) = true -> True) /\ (decide (y.2.1 = q21) = true -> (decide (y.2.1 = q21) == true) = true /\ True) /\ (decide (y.2.1 = q21) = true -> True) /\ (decide (y.2.1 = q21) = true -> (decide
  (y.2.1 = q21) == true) = true /\ (decide (y.2.1 = q21) == true) = true /\ True) /\ (decide (y.2.1 = q21) = true -> (decide (y.2.1 = q21) == true) = true) /\ True /\ (∀ (y_1 : Unit), True ->
  (bif decide (y.2.1 = q21) then decide (y.1.1 = x.2.1) else false) = true -> contD x.1 x.2.1 = (y.1.2, true)) /\ ∀ (y_1 : Unit), Kd.wf Kd.unit y_1 -> (bif decide (y.2.1 = q21) then decide
  (y.1.1 = x.2.1) else false) = false -> (contD x.1 x.2.1).2 = false) /\ True
theorem e60 : t60 = Con.vc c_ext_content GL (mkEnvO ty [(96, conSem c_der_One), (44, conSem c_ext_must)] [] [] [0, 1, 4, 5, 6] [1000000]) {} Try.f60.ntmps Try.f60.results.toList (bodyOf Try.f60) := by kernel_rfl
theorem k60 : t60 := by
  unfold t60
  delta q9 q117 q121 q26 q69 q183 wiZ q62 q64 q21 wyZ q221
  rintro ⟨b, t, _⟩ hx hp
  have hp : b.length ≤ 2000000 := hp
  try dsimp +instances only [dft_int, dft_sl, dft_str]
  simp only [true_and, and_true, eq_self_iff_true, implies_true, reduceCtorEq, false_implies, true_implies, decide_eq_true_eq, decide_eq_false_iff_not, beq_self_eq_true, Bool.not_eq_true', ne_eq, Decidable.not_not, List.nil_append, List.length_singleton, List.length_cons, List.length_nil, Nat.zero_add, Nat.add_zero, Nat.mul_one, and_self, beq_iff_eq, Bool.not_true, Bool.not_false, Bool.not_eq_false', Bool.cond_false_right, Bool.and_eq_true, imp_self, Bool.not_eq_true, Bool.cond_true_left, Bool.or_eq_true]
  refine ⟨by show b.length ≤ _; omega, ?_⟩
  rintro ⟨⟨u, c⟩, f, _⟩ _ e
  simp only at e ⊢
  refine ⟨by decide, fun _ h => ?_, fun _ _ h => ?_⟩
  . rw [contD, ← e]
    exact if_pos h
  . rw [contD, ← e, if_neg]
    rintro ⟨h1, h2⟩
    simp only at h1 h2
    rw [h1, h2] at h
    simp at h
theorem h60 : c_ext_content.ok Try.prog GL 60 := conO_ok (H := {}) (mkEnvO_ok (gl := GL) (l := [(96, conSem c_der_One), (44, conSem c_ext_must)]) (q := []) (d := []) _ [1000000] tyOk (by kernel_rfl) ⟨h96.call, h44.call, trivial⟩ trivial trivial) (by kernel_rfl) (by kernel_rfl) (Eq.mp e60 k60)
def t43 : Prop :=
  ∀ (x : q9), (q117 x) -> lenB x.1 <= q121 -> lenB x.1 <= q121 /\ (∀ (y : q1), (q27 y) -> contD x.1 x.2.1 = (y.1, true) -> lenB y.1 <= q26 /\ (∀ (y_1 : List q69 × Int × Int × Unit), (Kd.wf
  q68 y_1.1 /\ wiZ y_1.2.1 /\ wiZ y_1.2.2.1 /\ True) -> (y_1.1, y_1.2.1, y_1.2.2.1) = allD y.1 -> True /\ (∀ (y : Unit), True -> decide (y_1.2.2.1 = q21) = true -> insD x.1 x.2.1 = (y_1.1,
  true)) /\ ∀ (y : Unit), Kd.wf Kd.unit y -> decide (y_1.2.2.1 = q21) = false -> (insD x.1 x.2.1).2 = false) /\ True) /\ ∀ (y : Unit), Kd.wf Kd.unit y -> (contD x.1 x.2.1).2 = false -> (insD
  x.1 x.2.1).2 = false
theorem e43 : t43 = Con.vc c_ext_inside GL (mkEnvO ty [(60, conSem c_ext_content), (45, conSem c_der_All), (44, conSem c_ext_must)] [] [] [0, 1, 4, 5, 7] [1000000]) {} Try.f43.ntmps Try.f43.results.toList (bodyOf Try.f43) := by kernel_rfl
theorem k43 : t43 := by
  unfold t43
  delta q9 q117 q121 q1 q27 q26 q69 q68 wiZ q21 wyZ q183 q221
  rintro ⟨b, t, _⟩ hx hp
  have hp : b.length ≤ 2000000 := hp
  try dsimp +instances only [dft_int, dft_sl, dft_str]
  simp only [true_and, and_true, eq_self_iff_true, implies_true, reduceCtorEq, false_implies, true_implies, decide_eq_true_eq, decide_eq_false_iff_not, beq_self_eq_true, Bool.not_eq_true', ne_eq, Decidable.not_not, List.nil_append, List.length_singleton, List.length_cons, List.length_nil, Nat.zero_add, Nat.add_zero, Nat.mul_one, and_self, beq_iff_eq, Bool.not_true, Bool.not_false, Bool.not_eq_false', Bool.cond_false_right, Bool.and_eq_true, imp_self, Bool.not_eq_true, Bool.cond_true_left, Bool.or_eq_true]
  refine ⟨hp, ?_, ?_⟩
  . rintro ⟨c, _⟩ _ e
    simp only at e ⊢
    have hl : c.length ≤ 1000000000 := by
      have h1 := contD_len b t
      rw [e] at h1
      simp only at h1
      omega
    refine ⟨hl, ?_⟩
    rintro ⟨l, i, f, _⟩ _ e2
    simp only at e2 ⊢
    have hi := ins_cont (b := b) (t := t) (by rw [e])
    rw [e] at hi
    simp only at hi
    rw [← e2] at hi
    simp only at hi
    rw [hi]
    refine ⟨fun _ h => ?_, fun _ _ h => ?_⟩
    . rw [h]; rfl
    . exact decide_eq_false h
  . intro _ _ h
    rw [ins_none h]
theorem h43 : c_ext_inside.ok Try.prog GL 43 := conO_ok (H := {}) (mkEnvO_ok (gl := GL) (l := [(60, conSem c_ext_content), (45, conSem c_der_All), (44, conSem c_ext_must)]) (q := []) (d := []) _ [1000000] tyOk (by kernel_rfl) ⟨h60.call, h45.call, h44.call, trivial⟩ trivial trivial) (by kernel_rfl) (by kernel_rfl) (Eq.mp e43 k43)
def t54 : Prop :=
  ∀ (x : List q69 × Int × Unit), (Kd.wf q68 x.1 /\ wiZ x.2.1 /\ True) -> True -> (decide ((lnZ x.1) = q179) = false -> True) /\ (decide ((lnZ x.1) = q179) = false -> (q140 x) = true /\ (q21
  <= q21 /\ q21 < (lnZ x.1)) /\ True) /\ (decide ((lnZ x.1) = q179) = false -> (q140 x) = true /\ True) /\ (decide ((lnZ x.1) = q179) = false -> (q140 x) = true /\ True) /\ (decide ((lnZ x.1)
  = q179) = false -> True) /\ (decide ((lnZ x.1) = q179) = false -> (q140 x) = true /\ (q140 x) = true /\ True) /\ (decide ((lnZ x.1) = q179) = false -> (q140 x) = true) /\ ((q139 x) = true
  -> ([], false, x.1) = takeE x.1 x.2.1) /\ ((q139 x) = false -> (q21 <= q21 /\ q21 < (lnZ x.1)) /\ (q21 <= q37 /\ q37 <= (lnZ x.1)) /\ ((List.getD x.1 q182 (Kd.dft q183)).2, true, List.drop
  q29 x.1) = takeE x.1 x.2.1)
theorem e54 : t54 = Con.vc c_ext_take GL (mkEnvO ty [] [] [] [0, 1, 4, 5, 6, 17] [1000000]) {} Try.f54.ntmps Try.f54.results.toList (bodyOf Try.f54) := by kernel_rfl
theorem k54 : t54 := by
  unfold t54
  delta q69 q68 wiZ lnZ q179 q140 q21 q139 q37 q182 q183 q29 q221
  rintro ⟨l, t, _⟩ hx hp
  try dsimp +instances only [dft_int, dft_sl, dft_str]
  simp only [true_and, and_true, eq_self_iff_true, implies_true, reduceCtorEq, false_implies, true_implies, decide_eq_true_eq, decide_eq_false_iff_not, beq_self_eq_true, Bool.not_eq_true', ne_eq, Decidable.not_not, List.nil_append, List.length_singleton, List.length_cons, List.length_nil, Nat.zero_add, Nat.add_zero, Nat.mul_one, and_self, beq_iff_eq, Bool.not_true, Bool.not_false, Bool.not_eq_false', Bool.cond_false_right, Bool.and_eq_true, imp_self, Bool.not_eq_true, Bool.cond_true_left, Bool.or_eq_true]
  try simp only
  have hd : ((Kd.int IntKind.i64).pair (Kd.int IntKind.u8).sl).dft = edft := rfl
  rw [hd]
  refine ⟨fun h => ⟨h, by decide, by omega⟩, fun h => ?_, fun h => ?_⟩
  . rw [takeE, if_pos]
    rcases h with h | h
    . exact .inl (List.length_eq_zero_iff.1 (by omega))
    . exact .inr h
  . obtain ⟨h1, h2⟩ := Bool.or_eq_false_iff.1 h
    have h1 := of_decide_eq_false h1
    have h2 : (l.getD 0 edft).1 = t := Classical.not_not.1 (of_decide_eq_false h2)
    have hne : l ≠ [] := fun e => h1 (by rw [e]; rfl)
    refine ⟨⟨by decide, by omega⟩, ⟨by decide, by omega⟩, ?_⟩
    rw [takeE, if_neg]
    rintro (h | h)
    . exact hne h
    . exact h h2
theorem h54 : c_ext_take.ok Try.prog GL 54 := conO_ok (H := {}) (mkEnvO_ok (gl := GL) (l := []) (q := []) (d := []) _ [1000000] tyOk (by kernel_rfl) trivial trivial trivial) (by kernel_rfl) (by kernel_rfl) (Eq.mp e54 k54)
def t47 : Prop :=
  ∀ (x : List q69 × Unit), (Kd.wf q68 x.1 /\ True) -> True -> True /\ (∀ (y : List Int × Bool × List q69 × Unit), (wyZ y.1 /\ wbZ y.2.1 /\ Kd.wf q68 y.2.2.1 /\ True) -> (y.1, y.2.1, y.2.2.1)
  = takeE x.1 q37 -> (y.2.1 = true -> True /\ (∀ (y_1 : Bool × Int × Unit), (wbZ y_1.1 /\ wiZ y_1.2.1 /\ True) -> (y_1.1, y_1.2.1) = ToBoolD y.1 -> (decide (y_1.2.1 = q21) = true -> True) /\
  (decide (y_1.2.1 = q21) = true -> (decide (y_1.2.1 = q21) == true) = true) /\ True /\ (∀ (y_2 : Unit), True -> (bif decide (y_1.2.1 = q21) then y_1.1 else false) = true -> yesE x.1 =
  (y.2.1, y.2.2.1, true)) /\ ∀ (y : Unit), Kd.wf Kd.unit y -> (bif decide (y_1.2.1 = q21) then y_1.1 else false) = false -> (yesE x.1).2.2 = false) /\ True) /\ (y.2.1 = false -> yesE x.1 =
  (y.2.1, y.2.2.1, true))) /\ True
theorem e47 : t47 = Con.vc c_ext_yes GL (mkEnvO ty [(54, conSem c_ext_take), (86, conSem c_num_ToBool), (44, conSem c_ext_must)] [] [] [0, 2, 3, 4, 5, 6, 7, 8, 15] [1000000]) {} Try.f47.ntmps Try.f47.results.toList (bodyOf Try.f47) := by kernel_rfl
theorem k47 : t47 := by
  unfold t47
  delta q69 q68 wyZ wbZ q37 wiZ q21 q183 q221
  rintro ⟨l, _⟩ hx hp
  try dsimp +instances only [dft_int, dft_sl, dft_str]
  simp only [true_and, and_true, eq_self_iff_true, implies_true, reduceCtorEq, false_implies, true_implies, decide_eq_true_eq, decide_eq_false_iff_not, beq_self_eq_true, Bool.not_eq_true', ne_eq, Decidable.not_not, List.nil_append, List.length_singleton, List.length_cons, List.length_nil, Nat.zero_add, Nat.add_zero, Nat.mul_one, and_self, beq_iff_eq, Bool.not_true, Bool.not_false, Bool.not_eq_false', Bool.cond_false_right, Bool.and_eq_true, imp_self, Bool.not_eq_true, Bool.cond_true_left, Bool.or_eq_true]
  rintro ⟨c, ok, r, _⟩ _ e
  simp only at e ⊢
  rw [yesE, ← e]
  refine ⟨fun h => ?_, fun h => ?_⟩
  . subst h
    rintro ⟨v, f, _⟩ _ e2
    simp only at e2 ⊢
    rw [if_neg (by simp), ← e2]
    refine ⟨fun _ h => by rw [h.1, h.2]; rfl, fun _ _ h => ?_⟩
    rw [if_neg]
    intro hc
    obtain ⟨rfl, rfl⟩ := Prod.mk.inj hc
    simp at h
  . subst h
    have := take_false (l := l) (t := 1) (by rw [← e])
    rw [← e] at this
    simp only at this
    rw [if_pos rfl, this]
theorem h47 : c_ext_yes.ok Try.prog GL 47 := conO_ok (H := {}) (mkEnvO_ok (gl := GL) (l := [(54, conSem c_ext_take), (86, conSem c_num_ToBool), (44, conSem c_ext_must)]) (q := []) (d := []) _ [1000000] tyOk (by kernel_rfl) ⟨h54.call, h86.call, h44.call, trivial⟩ trivial trivial) (by kernel_rfl) (by kernel_rfl) (Eq.mp e47 k47)
def t72 : Prop :=
  ∀ (x : q1), (q27 x) -> True -> q129 <= q64 /\ True /\ (∀ (y : Unit), True -> decide ((lnZ x.1) = (20 : Int)) = true -> q129 <= List.length x.1 /\ q129 = q129 /\ List.length (List.take q129
  x.1) = q129 /\ lenB x.1 = q129 /\ List.take q129 x.1 = x.1) /\ ∀ (y : Unit), Kd.wf Kd.unit y -> decide ((lnZ x.1) = (20 : Int)) = false -> lenB x.1 ≠ q129
theorem e72 : t72 = Con.vc c_ext_id GL (mkEnvO ty [(44, conSem c_ext_must)] [] [] [0, 2] [1000000]) {} Try.f72.ntmps Try.f72.results.toList (bodyOf Try.f72) := by kernel_rfl
theorem k72 : t72 := by
  unfold t72
  delta q1 q27 q129 q64 lnZ wyZ
  rintro ⟨b, _⟩ hx hp
  try dsimp +instances only [dft_int, dft_sl, dft_str]
  simp only [true_and, and_true, eq_self_iff_true, implies_true, reduceCtorEq, false_implies, true_implies, decide_eq_true_eq, decide_eq_false_iff_not, beq_self_eq_true, Bool.not_eq_true', ne_eq, Decidable.not_not, List.nil_append, List.length_singleton, List.length_cons, List.length_nil, Nat.zero_add, Nat.add_zero, Nat.mul_one, and_self, beq_iff_eq, Bool.not_true, Bool.not_false, Bool.not_eq_false', Bool.cond_false_right, Bool.and_eq_true, imp_self, Bool.not_eq_true, Bool.cond_true_left, Bool.or_eq_true]
  refine ⟨by decide, fun _ h => ?_, fun _ _ h => ?_⟩
  . have h : b.length = 20 := by exact_mod_cast h
    have ht : List.take 20 b = b := List.take_of_length_le (by omega)
    exact ⟨by omega, by rw [ht]; exact h, h, ht⟩
  . intro hc
    have hc : b.length = 20 := hc
    exact h (by exact_mod_cast hc)
theorem h72 : c_ext_id.ok Try.prog GL 72 := conO_ok (H := {}) (mkEnvO_ok (gl := GL) (l := [(44, conSem c_ext_must)]) (q := []) (d := []) _ [1000000] tyOk (by kernel_rfl) ⟨h44.call, trivial⟩ trivial trivial) (by kernel_rfl) (by kernel_rfl) (Eq.mp e72 k72)
noncomputable def i90 : DefSem := vcDef (mkEnv ty [] [] [] [0, 1, 2, 4, 5, 8, 15]) {} Try.f90.ntmps Try.f90.results.toList (bodyOf Try.f90)
theorem i90_ok : DefOk Try.prog GL 90 i90 := def_ok {} (mkEnv_ok (gl := GL) (l := []) (q := []) (d := []) _ tyOk (by kernel_rfl) trivial trivial trivial) (by kernel_rfl) (by kernel_rfl)
noncomputable def i53 : CallSem := vcFn (mkEnvO ty [(43, conSem c_ext_inside), (47, conSem c_ext_yes), (54, conSem c_ext_take), (55, conSem c_num_ToInt), (44, conSem c_ext_must)] [] [] [0, 1, 2, 3, 4, 5, 6, 7, 8, 24] [1000000]) {} Try.f53.ntmps Try.f53.results.toList (bodyOf Try.f53)
theorem i53_ok : CallOk Try.prog GL 53 i53 := inlO_ok {} (mkEnvO_ok (gl := GL) (l := [(43, conSem c_ext_inside), (47, conSem c_ext_yes), (54, conSem c_ext_take), (55, conSem c_num_ToInt), (44, conSem c_ext_must)]) (q := []) (d := []) _ [1000000] tyOk (by kernel_rfl) ⟨h43.call, h47.call, h54.call, h55.call, h44.call, trivial⟩ trivial trivial) (by kernel_rfl) (by kernel_rfl)
noncomputable def i52 : CallSem := vcFn (mkEnv ty [(53, i53)] [] [(90, i90)] [0, 2, 3]) {} Try.f52.ntmps Try.f52.results.toList (bodyOf Try.f52)
theorem i52_ok : CallOk Try.prog GL 52 i52 := inl_ok {} (mkEnv_ok (gl := GL) (l := [(53, i53)]) (q := []) (d := [(90, i90)]) _ tyOk (by kernel_rfl) ⟨i53_ok, trivial⟩ trivial ⟨i90_ok, trivial⟩) (by kernel_rfl) (by kernel_rfl)
def t16 : Prop :=
  ∀ (x : q1), (q27 x) -> lenB x.1 <= q121 -> List.length [SV.dat q34 x.1] <= q64 /\ q62 <= q64 /\ q62 <= q64 /\ q29 <= q64 /\ q62 <= q64 /\ q62 <= q64 /\ lenB x.1 <= q121 /\ (∀ (y : List q69
  × Unit), (Kd.wf q68 y.1 /\ True) -> insD x.1 (48 : Int) = (y.1, true) -> True /\ (∀ (y_1 : Bool × List q69 × Unit), (wbZ y_1.1 /\ Kd.wf q68 y_1.2.1 /\ True) -> yesE y.1 = (y_1.1, y_1.2.1,
  true) -> True /\ (∀ (y : List Int × Bool × List q69 × Unit), (wyZ y.1 /\ wbZ y.2.1 /\ Kd.wf q68 y.2.2.1 /\ True) -> (y.1, y.2.1, y.2.2.1) = takeE y_1.2.1 q23 -> (y.2.1 = true -> True /\ (∀
  (y_2 : q4), (q33 y_2) -> (y_2.1, y_2.2.1) = ToIntD y.1 -> (decide (q144 y_2) = true -> True) /\ (q142 y_2) /\ ((q143 y_2 y_1) = true -> True) /\ ((q143 y_2 y_1) = true -> ((q143 y_2 y_1) ==
  true) = true /\ True) /\ ((q143 y_2 y_1) = true -> ((q143 y_2 y_1) == true) = true) /\ ((q141 y_2 y_1) = true -> True) /\ ((q141 y_2 y_1) = true -> ((q141 y_2 y_1) == true) = true /\ True)
  /\ ((q141 y_2 y_1) = true -> ((q141 y_2 y_1) == true) = true) /\ True /\ (∀ (y_3 : Unit), True -> (bif bif bif decide (q144 y_2) then y_1.1 else false then decide (q21 <= y_2.1) else false
  then decide (y_2.1 <= (100 : Int)) else false) = true -> True /\ (∀ (y_4 : Unit), True -> decide ((lnZ y.2.2.1) = q21) = true -> ((y_1.1, y_2.1), q21) = ToBasicD x.1) /\ ∀ (y_4 : Unit),
  Kd.wf Kd.unit y_4 -> decide ((lnZ y.2.2.1) = q21) = false -> q28 <= q64 /\ q62 <= q64 /\ ((false, q21), q136) = ToBasicD x.1) /\ ∀ (y : Unit), Kd.wf Kd.unit y -> (bif bif bif decide (q144
  y_2) then y_1.1 else false then decide (q21 <= y_2.1) else false then decide (y_2.1 <= (100 : Int)) else false) = false -> q28 <= q64 /\ q62 <= q64 /\ ((false, q21), q136) = ToBasicD x.1)
  /\ True) /\ (y.2.1 = false -> True /\ (∀ (y_2 : Unit), True -> decide ((lnZ y.2.2.1) = q21) = true -> ((y_1.1, q219), q21) = ToBasicD x.1) /\ ∀ (y_2 : Unit), Kd.wf Kd.unit y_2 -> decide
  ((lnZ y.2.2.1) = q21) = false -> q28 <= q64 /\ q62 <= q64 /\ ((false, q21), q136) = ToBasicD x.1)) /\ True) /\ ∀ (y_1 : Unit), Kd.wf Kd.unit y_1 -> (yesE y.1).2.2 = false -> q28 <= q64 /\
  q62 <= q64 /\ ((false, q21), q136) = ToBasicD x.1) /\ ∀ (y : Unit), Kd.wf Kd.unit y -> (insD x.1 (48 : Int)).2 = false -> q28 <= q64 /\ q62 <= q64 /\ ((false, q21), q136) = ToBasicD x.1
theorem e16 : t16 = Con.vc c_ext_ToBasic GL (mkEnv ty [(52, i52)] [] [] [0, 1, 2, 3]) {} Try.f16.ntmps Try.f16.results.toList (bodyOf Try.f16) := by kernel_rfl
theorem k16 : t16 := by
  unfold t16
  delta q1 q27 q121 q34 q64 q62 q29 q69 q68 wbZ wyZ q23 q4 q33 q144 q142 q143 q141 q21 lnZ q28 q136 q219 q221 q183 wiZ q179
  rintro ⟨b, _⟩ hx hp
  have hp : b.length ≤ 2000000 := hp
  try dsimp +instances only [dft_int, dft_sl, dft_str]
  simp only [true_and, and_true, eq_self_iff_true, implies_true, reduceCtorEq, false_implies, true_implies, decide_eq_true_eq, decide_eq_false_iff_not, beq_self_eq_true, Bool.not_eq_true', ne_eq, Decidable.not_not, List.nil_append, List.length_singleton, List.length_cons, List.length_nil, Nat.zero_add, Nat.add_zero, Nat.mul_one, and_self, beq_iff_eq, Bool.not_true, Bool.not_false, Bool.not_eq_false', Bool.cond_false_right, Bool.and_eq_true, imp_self, Bool.not_eq_true, Bool.cond_true_left, Bool.or_eq_true]
  refine ⟨by decide, by decide, by decide, by decide, by decide, by decide, hp, ?_, ?_⟩
  . rintro ⟨l, _⟩ _ e
    simp only at e ⊢
    rw [toBasic_ins, e]
    refine ⟨?_, fun _ _ h => ⟨by decide, by decide, (basW_bad h).symm⟩⟩
    rintro ⟨ca, r, _⟩ _ e2
    simp only at e2 ⊢
    rintro ⟨p, ok, q, _⟩ _ e3
    simp only at e3 ⊢
    refine ⟨fun h => ?_, fun h => ?_⟩
    . subst h
      rintro ⟨n, f, _⟩ _ e4
      simp only at e4 ⊢
      rw [basW_int e2 e3.symm e4.symm]
      refine ⟨fun _ h => ⟨fun _ h2 => ?_, fun _ _ h2 => ⟨by decide, by decide, ?_⟩⟩, fun _ _ h => ⟨by decide, by decide, ?_⟩⟩
      . have h2 : q = [] := List.length_eq_zero_iff.1 (by omega)
        rw [if_pos ⟨h.1.1.1, h.1.1.2, h.1.2, h.2, h2⟩]
      . rw [if_neg]
        rintro ⟨_, _, _, _, h3⟩
        exact h2 (by rw [h3]; rfl)
      . rw [if_neg]
        rintro ⟨h1, h2, h3, h4, _⟩
        rw [decide_eq_true h1, h2, decide_eq_true h3, decide_eq_true h4] at h
        cases h
    . subst h
      rw [basW_no e2 e3.symm]
      refine ⟨fun _ h2 => ?_, fun _ _ h2 => ⟨by decide, by decide, ?_⟩⟩
      . have h2 : q = [] := List.length_eq_zero_iff.1 (by omega)
        rw [if_pos h2]
      . rw [if_neg]
        intro h3
        exact h2 (by rw [h3]; rfl)
  . intro _ _ h
    exact ⟨by decide, by decide, by rw [toBasic_ins, basW_none h]⟩
theorem h16 : c_ext_ToBasic.ok Try.prog GL 16 := con_ok (H := {}) (mkEnv_ok (gl := GL) (l := [(52, i52)]) (q := []) (d := []) _ tyOk (by kernel_rfl) ⟨i52_ok, trivial⟩ trivial trivial) (by kernel_rfl) (by kernel_rfl) (Eq.mp e16 k16)
noncomputable def i93 : DefSem := vcDef (mkEnv ty [] [] [] [0, 1, 2, 4, 5, 8, 15]) {} Try.f93.ntmps Try.f93.results.toList (bodyOf Try.f93)
theorem i93_ok : DefOk Try.prog GL 93 i93 := def_ok {} (mkEnv_ok (gl := GL) (l := []) (q := []) (d := []) _ tyOk (by kernel_rfl) trivial trivial trivial) (by kernel_rfl) (by kernel_rfl)
noncomputable def i58 : CallSem := vcFn (mkEnvO ty [(60, conSem c_ext_content), (59, conSem c_num_ToFlags), (44, conSem c_ext_must)] [] [] [0, 1, 2, 3] [1000000]) {} Try.f58.ntmps Try.f58.results.toList (bodyOf Try.f58)
theorem i58_ok : CallOk Try.prog GL 58 i58 := inlO_ok {} (mkEnvO_ok (gl := GL) (l := [(60, conSem c_ext_content), (59, conSem c_num_ToFlags), (44, conSem c_ext_must)]) (q := []) (d := []) _ [1000000] tyOk (by kernel_rfl) ⟨h60.call, h59.call, h44.call, trivial⟩ trivial trivial) (by kernel_rfl) (by kernel_rfl)
noncomputable def i57 : CallSem := vcFn (mkEnv ty [(58, i58)] [] [(93, i93)] [0, 2, 3]) {} Try.f57.ntmps Try.f57.results.toList (bodyOf Try.f57)
theorem i57_ok : CallOk Try.prog GL 57 i57 := inl_ok {} (mkEnv_ok (gl := GL) (l := [(58, i58)]) (q := []) (d := [(93, i93)]) _ tyOk (by kernel_rfl) ⟨i58_ok, trivial⟩ trivial ⟨i93_ok, trivial⟩) (by kernel_rfl) (by kernel_rfl)
def t18 : Prop :=
  ∀ (x : q1), (q27 x) -> lenB x.1 <= q121 -> List.length [SV.dat q34 x.1] <= q64 /\ q29 <= q64 /\ q29 <= q64 /\ lenB x.1 <= q121 /\ (∀ (y : q1), (q27 y) -> contD x.1 (3 : Int) = (y.1, true)
  -> lenB y.1 <= q121 /\ (∀ (y_1 : q4), (Kd.wf q88 y_1.1 /\ wiZ y_1.2.1 /\ True) -> (y_1.1, y_1.2.1) = ToFlagsD y.1 -> (decide (q144 y_1) = true -> True) /\ (decide (q144 y_1) = true ->
  (decide (y_1.2.1 = q179) == true) = true /\ True) /\ (q142 y_1) /\ ((q146 y_1) = true -> True) /\ ((q146 y_1) = true -> ((q146 y_1) == true) = true /\ True) /\ ((q146 y_1) = true -> ((q146
  y_1) == true) = true) /\ True /\ (∀ (y : Unit), True -> (q145 y_1) = true -> (y_1.1, q21) = ToUsageD x.1) /\ ∀ (y : Unit), Kd.wf Kd.unit y -> (q145 y_1) = false -> q28 <= q64 /\ (q21, q136)
  = ToUsageD x.1) /\ True) /\ ∀ (y : Unit), Kd.wf Kd.unit y -> (contD x.1 (3 : Int)).2 = false -> q28 <= q64 /\ (q21, q136) = ToUsageD x.1
theorem e18 : t18 = Con.vc c_ext_ToUsage GL (mkEnv ty [(57, i57)] [] [] [0, 1, 2, 3]) {} Try.f18.ntmps Try.f18.results.toList (bodyOf Try.f18) := by kernel_rfl
theorem k18 : t18 := by
  unfold t18
  delta q1 q27 q121 q34 q64 q29 q4 q88 wiZ q144 q179 q142 q146 q145 q21 q28 q136 wyZ q221
  rintro ⟨b, _⟩ hx hp
  have hp : b.length ≤ 2000000 := hp
  try dsimp +instances only [dft_int, dft_sl, dft_str]
  simp only [true_and, and_true, eq_self_iff_true, implies_true, reduceCtorEq, false_implies, true_implies, decide_eq_true_eq, decide_eq_false_iff_not, beq_self_eq_true, Bool.not_eq_true', ne_eq, Decidable.not_not, List.nil_append, List.length_singleton, List.length_cons, List.length_nil, Nat.zero_add, Nat.add_zero, Nat.mul_one, and_self, beq_iff_eq, Bool.not_true, Bool.not_false, Bool.not_eq_false', Bool.cond_false_right, Bool.and_eq_true, imp_self, Bool.not_eq_true, Bool.cond_true_left, Bool.or_eq_true]
  refine ⟨by decide, by decide, by decide, hp, ?_, ?_⟩
  . rintro ⟨c, _⟩ _ e
    simp only at e ⊢
    have hl : c.length ≤ 2000000 := by
      have h1 := contD_len b 3
      rw [e] at h1
      simp only at h1
      omega
    refine ⟨hl, ?_⟩
    rintro ⟨n, f, _⟩ _ e2
    simp only at e2 ⊢
    rw [ToUsageD, e]
    simp only
    rw [← e2]
    simp only
    refine ⟨fun _ h => ?_, fun _ _ h => ⟨by decide, ?_⟩⟩
    . rw [if_pos ⟨trivial, h.1.1, h.1.2, h.2⟩]
    . rw [if_neg]
      rintro ⟨_, h1, h2, h3⟩
      rw [decide_eq_true h1, decide_eq_true h2, decide_eq_true h3] at h
      cases h
  . intro _ _ h
    refine ⟨by decide, ?_⟩
    rw [ToUsageD, if_neg (by rw [h]; simp)]
theorem h18 : c_ext_ToUsage.ok Try.prog GL 18 := con_ok (H := {}) (mkEnv_ok (gl := GL) (l := [(57, i57)]) (q := []) (d := []) _ tyOk (by kernel_rfl) ⟨i57_ok, trivial⟩ trivial trivial) (by kernel_rfl) (by kernel_rfl) (Eq.mp e18 k18)
noncomputable def i98 : DefSem := vcDef (mkEnv ty [] [] [] [0, 1, 2, 4, 5, 8, 15]) {} Try.f98.ntmps Try.f98.results.toList (bodyOf Try.f98)
theorem i98_ok : DefOk Try.prog GL 98 i98 := def_ok {} (mkEnv_ok (gl := GL) (l := []) (q := []) (d := []) _ tyOk (by kernel_rfl) trivial trivial trivial) (by kernel_rfl) (by kernel_rfl)
noncomputable def i63 : CallSem := vcFn (mkEnvO ty [(60, conSem c_ext_content), (55, conSem c_num_ToInt), (44, conSem c_ext_must)] [] [] [0, 1, 2, 3] [1000000]) {} Try.f63.ntmps Try.f63.results.toList (bodyOf Try.f63)
theorem i63_ok : CallOk Try.prog GL 63 i63 := inlO_ok {} (mkEnvO_ok (gl := GL) (l := [(60, conSem c_ext_content), (55, conSem c_num_ToInt), (44, conSem c_ext_must)]) (q := []) (d := []) _ [1000000] tyOk (by kernel_rfl) ⟨h60.call, h55.call, h44.call, trivial⟩ trivial trivial) (by kernel_rfl) (by kernel_rfl)
noncomputable def i67 : CallSem := vcFn (mkEnvO ty [(60, conSem c_ext_content), (55, conSem c_num_ToInt), (68, conSem c_ext_reason), (44, conSem c_ext_must)] [] [] [0, 1, 2, 3] [1000000]) {} Try.f67.ntmps Try.f67.results.toList (bodyOf Try.f67)
theorem i67_ok : CallOk Try.prog GL 67 i67 := inlO_ok {} (mkEnvO_ok (gl := GL) (l := [(60, conSem c_ext_content), (55, conSem c_num_ToInt), (68, conSem c_ext_reason), (44, conSem c_ext_must)]) (q := []) (d := []) _ [1000000] tyOk (by kernel_rfl) ⟨h60.call, h55.call, h68.call, h44.call, trivial⟩ trivial trivial) (by kernel_rfl) (by kernel_rfl)
noncomputable def i62 : CallSem := vcFn (mkEnv ty [(63, i63), (67, i67)] [] [(98, i98)] [0, 2, 3]) {} Try.f62.ntmps Try.f62.results.toList (bodyOf Try.f62)
theorem i62_ok : CallOk Try.prog GL 62 i62 := inl_ok {} (mkEnv_ok (gl := GL) (l := [(63, i63), (67, i67)]) (q := []) (d := [(98, i98)]) _ tyOk (by kernel_rfl) ⟨i63_ok, i67_ok, trivial⟩ trivial ⟨i98_ok, trivial⟩) (by kernel_rfl) (by kernel_rfl)
def t20 : Prop :=
  ∀ (x : q1), (q27 x) -> lenB x.1 <= q121 -> List.length [SV.dat q34 x.1] <= q64 /\ q29 <= q64 /\ q29 <= q64 /\ lenB x.1 <= q121 /\ (∀ (y : q1), (q27 y) -> contD x.1 q23 = (y.1, true) -> True
  /\ (∀ (y_1 : q4), (q33 y_1) -> (y_1.1, y_1.2.1) = ToIntD y.1 -> (decide (q144 y_1) = true -> True) /\ (decide (q144 y_1) = true -> (decide (y_1.2.1 = q179) == true) = true /\ True) /\ (q142
  y_1) /\ True /\ (∀ (y : Unit), True -> (bif decide (q144 y_1) then decide (q21 <= y_1.1) else false) = true -> (y_1.1, q21) = ToNumberD x.1) /\ ∀ (y : Unit), Kd.wf Kd.unit y -> (bif decide
  (q144 y_1) then decide (q21 <= y_1.1) else false) = false -> q28 <= q64 /\ (q21, q136) = ToNumberD x.1) /\ True) /\ ∀ (y : Unit), Kd.wf Kd.unit y -> (contD x.1 q23).2 = false -> q28 <= q64
  /\ (q21, q136) = ToNumberD x.1
theorem e20 : t20 = Con.vc c_ext_ToNumber GL (mkEnv ty [(62, i62)] [] [] [0, 1, 2, 3]) {} Try.f20.ntmps Try.f20.results.toList (bodyOf Try.f20) := by kernel_rfl
theorem k20 : t20 := by
  unfold t20
  delta q1 q27 q121 q34 q64 q29 q23 q4 q33 q144 q179 q142 q21 q28 q136 wyZ q221 wiZ
  rintro ⟨b, _⟩ hx hp
  have hp : b.length ≤ 2000000 := hp
  try dsimp +instances only [dft_int, dft_sl, dft_str]
  simp only [true_and, and_true, eq_self_iff_true, implies_true, reduceCtorEq, false_implies, true_implies, decide_eq_true_eq, decide_eq_false_iff_not, beq_self_eq_true, Bool.not_eq_true', ne_eq, Decidable.not_not, List.nil_append, List.length_singleton, List.length_cons, List.length_nil, Nat.zero_add, Nat.add_zero, Nat.mul_one, and_self, beq_iff_eq, Bool.not_true, Bool.not_false, Bool.not_eq_false', Bool.cond_false_right, Bool.and_eq_true, imp_self, Bool.not_eq_true, Bool.cond_true_left, Bool.or_eq_true]
  refine ⟨by decide, by decide, by decide, hp, ?_, ?_⟩
  . rintro ⟨c, _⟩ _ e
    simp only at e ⊢
    rintro ⟨n, f, _⟩ _ e2
    simp only at e2 ⊢
    rw [ToNumberD, e]
    simp only
    rw [← e2]
    simp only
    refine ⟨fun _ h => ?_, fun _ _ h => ⟨by decide, ?_⟩⟩
    . rw [if_pos ⟨trivial, h.1, h.2⟩]
    . rw [if_neg]
      rintro ⟨_, h1, h2⟩
      rw [decide_eq_true h1, decide_eq_true h2] at h
      cases h
  . intro _ _ h
    refine ⟨by decide, ?_⟩
    rw [ToNumberD, if_neg (by rw [h]; simp)]
theorem h20 : c_ext_ToNumber.ok Try.prog GL 20 := con_ok (H := {}) (mkEnv_ok (gl := GL) (l := [(62, i62)]) (q := []) (d := []) _ tyOk (by kernel_rfl) ⟨i62_ok, trivial⟩ trivial trivial) (by kernel_rfl) (by kernel_rfl) (Eq.mp e20 k20)
def t22 : Prop :=
  ∀ (x : q1), (q27 x) -> lenB x.1 <= q121 -> List.length [SV.dat q34 x.1] <= q64 /\ q29 <= q64 /\ q29 <= q64 /\ lenB x.1 <= q121 /\ (∀ (y : q1), (q27 y) -> contD x.1 q61 = (y.1, true) -> True
  /\ (∀ (y_1 : q4), (q33 y_1) -> (y_1.1, y_1.2.1) = ToIntD y.1 -> (decide (q144 y_1) = true -> True) /\ (decide (q144 y_1) = true -> (decide (y_1.2.1 = q179) == true) = true /\ True /\ (∀ (y
  : q7), (wbZ y.1 /\ True) -> y.1 = reasonK y_1.1 -> True /\ (∀ (y_2 : Unit), True -> y.1 = true -> (y_1.1, q21) = ToReasonD x.1) /\ ∀ (y_2 : Unit), Kd.wf Kd.unit y_2 -> y.1 = false -> q28 <=
  q64 /\ (q21, q136) = ToReasonD x.1) /\ True) /\ (decide (q144 y_1) = !true -> True /\ (∀ (y : Unit), True -> false = true -> (y_1.1, q21) = ToReasonD x.1) /\ ∀ (y : Unit), Kd.wf Kd.unit y
  -> false = false -> q28 <= q64 /\ (q21, q136) = ToReasonD x.1)) /\ True) /\ ∀ (y : Unit), Kd.wf Kd.unit y -> (contD x.1 q61).2 = false -> q28 <= q64 /\ (q21, q136) = ToReasonD x.1
theorem e22 : t22 = Con.vc c_ext_ToReason GL (mkEnv ty [(62, i62)] [] [] [0, 1, 2, 3]) {} Try.f22.ntmps Try.f22.results.toList (bodyOf Try.f22) := by kernel_rfl
theorem k22 : t22 := by
  unfold t22
  delta q1 q27 q121 q34 q64 q29 q61 q4 q33 q144 q179 q7 wbZ q21 q28 q136 wyZ q221 wiZ
  rintro ⟨b, _⟩ hx hp
  have hp : b.length ≤ 2000000 := hp
  try dsimp +instances only [dft_int, dft_sl, dft_str]
  simp only [true_and, and_true, eq_self_iff_true, implies_true, reduceCtorEq, false_implies, true_implies, decide_eq_true_eq, decide_eq_false_iff_not, beq_self_eq_true, Bool.not_eq_true', ne_eq, Decidable.not_not, List.nil_append, List.length_singleton, List.length_cons, List.length_nil, Nat.zero_add, Nat.add_zero, Nat.mul_one, and_self, beq_iff_eq, Bool.not_true, Bool.not_false, Bool.not_eq_false', Bool.cond_false_right, Bool.and_eq_true, imp_self, Bool.not_eq_true, Bool.cond_true_left, Bool.or_eq_true]
  refine ⟨by decide, by decide, by decide, hp, ?_, ?_⟩
  . rintro ⟨c, _⟩ _ e
    simp only at e ⊢
    rintro ⟨n, f, _⟩ _ e2
    simp only at e2 ⊢
    rw [ToReasonD, e]
    simp only
    rw [← e2]
    simp only
    refine ⟨fun h => ⟨h, ?_⟩, fun h _ _ => ⟨by decide, ?_⟩⟩
    . rintro ⟨r, _⟩ _ e3
      simp only at e3 ⊢
      subst e3
      refine ⟨fun _ h2 => ?_, fun _ _ h2 => ⟨by decide, ?_⟩⟩
      . rw [if_pos ⟨trivial, h, h2⟩]
      . rw [if_neg]
        rintro ⟨_, _, h3⟩
        rw [h2] at h3; cases h3
    . rw [if_neg]
      rintro ⟨_, h1, _⟩
      exact h h1
  . intro _ _ h
    refine ⟨by decide, ?_⟩
    rw [ToReasonD, if_neg (by rw [h]; simp)]
theorem h22 : c_ext_ToReason.ok Try.prog GL 22 := con_ok (H := {}) (mkEnv_ok (gl := GL) (l := [(62, i62)]) (q := []) (d := []) _ tyOk (by kernel_rfl) ⟨i62_ok, trivial⟩ trivial trivial) (by kernel_rfl) (by kernel_rfl) (Eq.mp e22 k22)
noncomputable def i101 : DefSem := vcDef (mkEnv ty [] [] [] [0, 1, 2, 4, 5, 8, 15]) {} Try.f101.ntmps Try.f101.results.toList (bodyOf Try.f101)
theorem i101_ok : DefOk Try.prog GL 101 i101 := def_ok {} (mkEnv_ok (gl := GL) (l := []) (q := []) (d := []) _ tyOk (by kernel_rfl) trivial trivial trivial) (by kernel_rfl) (by kernel_rfl)
noncomputable def i71 : CallSem := vcFn (mkEnvO ty [(60, conSem c_ext_content), (72, conSem c_ext_id)] [] [] [0, 1] [1000000]) {} Try.f71.ntmps Try.f71.results.toList (bodyOf Try.f71)
theorem i71_ok : CallOk Try.prog GL 71 i71 := inlO_ok {} (mkEnvO_ok (gl := GL) (l := [(60, conSem c_ext_content), (72, conSem c_ext_id)]) (q := []) (d := []) _ [1000000] tyOk (by kernel_rfl) ⟨h60.call, h72.call, trivial⟩ trivial trivial) (by kernel_rfl) (by kernel_rfl)
noncomputable def i74 : CallSem := vcFn (mkEnvO ty [(60, conSem c_ext_content), (72, conSem c_ext_id)] [] [] [0, 1] [1000000]) {} Try.f74.ntmps Try.f74.results.toList (bodyOf Try.f74)
theorem i74_ok : CallOk Try.prog GL 74 i74 := inlO_ok {} (mkEnvO_ok (gl := GL) (l := [(60, conSem c_ext_content), (72, conSem c_ext_id)]) (q := []) (d := []) _ [1000000] tyOk (by kernel_rfl) ⟨h60.call, h72.call, trivial⟩ trivial trivial) (by kernel_rfl) (by kernel_rfl)
noncomputable def i70 : CallSem := vcFn (mkEnv ty [(71, i71), (74, i74)] [] [(101, i101)] [0, 2, 3]) {} Try.f70.ntmps Try.f70.results.toList (bodyOf Try.f70)
theorem i70_ok : CallOk Try.prog GL 70 i70 := inl_ok {} (mkEnv_ok (gl := GL) (l := [(71, i71), (74, i74)]) (q := []) (d := [(101, i101)]) _ tyOk (by kernel_rfl) ⟨i71_ok, i74_ok, trivial⟩ trivial ⟨i101_ok, trivial⟩) (by kernel_rfl) (by kernel_rfl)
def t24 : Prop :=
  ∀ (x : q1), (q27 x) -> lenB x.1 <= q121 -> List.length [SV.dat q34 x.1] <= q64 /\ q129 <= q64 /\ q129 <= q64 /\ q29 <= q64 /\ q129 <= q64 /\ lenB x.1 <= q121 /\ (∀ (y : q1), (q27 y) ->
  contD x.1 (4 : Int) = (y.1, true) -> True /\ (∀ (y_1 : q1), (q127 y_1) -> lenB y.1 = q129 /\ y_1.1 = y.1 -> q129 = q129 /\ List.length y_1.1 = q129 /\ q129 = q129 /\ List.length y_1.1 =
  q129 /\ q129 = q129 /\ List.length y_1.1 = q129 /\ (y_1.1, q21) = ToSubjectD x.1) /\ ∀ (y_1 : Unit), Kd.wf Kd.unit y_1 -> lenB y.1 ≠ q129 -> q28 <= q64 /\ q129 <= q64 /\ q129 = q129 /\ q129
  = q129 /\ q129 = q129 /\ q129 = q129 /\ q129 = q129 /\ ([q21, q21, q21, q21, q21, q21, q21, q21, q21, q21, q21, q21, q21, q21, q21, q21, q21, q21, q21, q21], q136) = ToSubjectD x.1) /\ ∀ (y
  : Unit), Kd.wf Kd.unit y -> (contD x.1 (4 : Int)).2 = false -> q28 <= q64 /\ q129 <= q64 /\ q129 = q129 /\ q129 = q129 /\ q129 = q129 /\ q129 = q129 /\ q129 = q129 /\ ([q21, q21, q21, q21,
  q21, q21, q21, q21, q21, q21, q21, q21, q21, q21, q21, q21, q21, q21, q21, q21], q136) = ToSubjectD x.1
theorem e24 : t24 = Con.vc c_ext_ToSubject GL (mkEnv ty [(70, i70)] [] [] [0, 1, 2, 3]) {} Try.f24.ntmps Try.f24.results.toList (bodyOf Try.f24) := by kernel_rfl
theorem k24 : t24 := by
  unfold t24
  delta q1 q27 q121 q34 q64 q129 q29 q127 q21 q28 q136 wyZ q221 q207
  rintro ⟨b, _⟩ hx hp
  have hp : b.length ≤ 2000000 := hp
  try dsimp +instances only [dft_int, dft_sl, dft_str]
  simp only [true_and, and_true, eq_self_iff_true, implies_true, reduceCtorEq, false_implies, true_implies, decide_eq_true_eq, decide_eq_false_iff_not, beq_self_eq_true, Bool.not_eq_true', ne_eq, Decidable.not_not, List.nil_append, List.length_singleton, List.length_cons, List.length_nil, Nat.zero_add, Nat.add_zero, Nat.mul_one, and_self, beq_iff_eq, Bool.not_true, Bool.not_false, Bool.not_eq_false', Bool.cond_false_right, Bool.and_eq_true, imp_self, Bool.not_eq_true, Bool.cond_true_left, Bool.or_eq_true]
  refine ⟨by decide, by decide, by decide, by decide, by decide, hp, ?_, ?_⟩
  . rintro ⟨c, _⟩ _ e
    simp only at e ⊢
    rw [ToSubjectD, e]
    simp only
    refine ⟨?_, fun _ _ h => ⟨by decide, by decide, ?_⟩⟩
    . rintro ⟨k, _⟩ hk ⟨h1, h2⟩
      have h1 : c.length = 20 := h1
      simp only at h2 ⊢
      subst h2
      exact ⟨h1, h1, h1, by rw [if_pos ⟨trivial, h1⟩]⟩
    . rw [if_neg (fun hc => h hc.2)]
      rfl
  . intro _ _ h
    refine ⟨by decide, by decide, ?_⟩
    rw [ToSubjectD, if_neg (by rw [h]; simp)]
    rfl
theorem h24 : c_ext_ToSubject.ok Try.prog GL 24 := con_ok (H := {}) (mkEnv_ok (gl := GL) (l := [(70, i70)]) (q := []) (d := []) _ tyOk (by kernel_rfl) ⟨i70_ok, trivial⟩ trivial trivial) (by kernel_rfl) (by kernel_rfl) (Eq.mp e24 k24)
def t26 : Prop :=
  ∀ (x : q1), (q27 x) -> lenB x.1 <= q121 -> List.length [SV.dat q34 x.1] <= q64 /\ q129 <= q64 /\ q129 <= q64 /\ q29 <= q64 /\ q129 <= q64 /\ lenB x.1 <= q121 /\ (∀ (y : q1), (q27 y) ->
  contD x.1 (48 : Int) = (y.1, true) -> lenB y.1 <= q121 /\ (∀ (y_1 : q1), (q27 y_1) -> contD y.1 q19 = (y_1.1, true) -> True /\ (∀ (y : q1), (q127 y) -> lenB y_1.1 = q129 /\ y.1 = y_1.1 ->
  q129 = q129 /\ List.length y.1 = q129 /\ q129 = q129 /\ List.length y.1 = q129 /\ q129 = q129 /\ List.length y.1 = q129 /\ (y.1, q21) = ToIssuerD x.1) /\ ∀ (y : Unit), Kd.wf Kd.unit y ->
  lenB y_1.1 ≠ q129 -> q28 <= q64 /\ q129 <= q64 /\ q129 = q129 /\ q129 = q129 /\ q129 = q129 /\ q129 = q129 /\ q129 = q129 /\ ([q21, q21, q21, q21, q21, q21, q21, q21, q21, q21, q21, q21,
  q21, q21, q21, q21, q21, q21, q21, q21], q136) = ToIssuerD x.1) /\ ∀ (y_1 : Unit), Kd.wf Kd.unit y_1 -> (contD y.1 q19).2 = false -> q28 <= q64 /\ q129 <= q64 /\ q129 = q129 /\ q129 = q129
  /\ q129 = q129 /\ q129 = q129 /\ q129 = q129 /\ ([q21, q21, q21, q21, q21, q21, q21, q21, q21, q21, q21, q21, q21, q21, q21, q21, q21, q21, q21, q21], q136) = ToIssuerD x.1) /\ ∀ (y :
  Unit), Kd.wf Kd.unit y -> (contD x.1 (48 : Int)).2 = false -> q28 <= q64 /\ q129 <= q64 /\ q129 = q129 /\ q129 = q129 /\ q129 = q129 /\ q129 = q129 /\ q129 = q129 /\ ([q21, q21, q21, q21,
  q21, q21, q21, q21, q21, q21, q21, q21, q21, q21, q21, q21, q21, q21, q21, q21], q136) = ToIssuerD x.1
theorem e26 : t26 = Con.vc c_ext_ToIssuer GL (mkEnv ty [(70, i70)] [] [] [0, 1, 2, 3]) {} Try.f26.ntmps Try.f26.results.toList (bodyOf Try.f26) := by kernel_rfl
theorem k26 : t26 := by
  unfold t26
  delta q1 q27 q121 q34 q64 q129 q29 q19 q127 q21 q28 q136 wyZ q221 q207
  rintro ⟨b, _⟩ hx hp
  have hp : b.length ≤ 2000000 := hp
  try dsimp +instances only [dft_int, dft_sl, dft_str]
  simp only [true_and, and_true, eq_self_iff_true, implies_true, reduceCtorEq, false_implies, true_implies, decide_eq_true_eq, decide_eq_false_iff_not, beq_self_eq_true, Bool.not_eq_true', ne_eq, Decidable.not_not, List.nil_append, List.length_singleton, List.length_cons, List.length_nil, Nat.zero_add, Nat.add_zero, Nat.mul_one, and_self, beq_iff_eq, Bool.not_true, Bool.not_false, Bool.not_eq_false', Bool.cond_false_right, Bool.and_eq_true, imp_self, Bool.not_eq_true, Bool.cond_true_left, Bool.or_eq_true]
  refine ⟨by decide, by decide, by decide, by decide, by decide, hp, ?_, ?_⟩
  . rintro ⟨c, _⟩ _ e
    simp only at e ⊢
    have hl : c.length ≤ 2000000 := by
      have h1 := contD_len b 48
      rw [e] at h1
      simp only at h1
      omega
    refine ⟨hl, ?_, ?_⟩
    . rintro ⟨d, _⟩ _ e2
      simp only at e2 ⊢
      rw [ToIssuerD, e]
      simp only
      rw [e2]
      simp only
      refine ⟨?_, fun _ _ h => ⟨by decide, by decide, ?_⟩⟩
      . rintro ⟨k, _⟩ hk ⟨h1, h2⟩
        have h1 : d.length = 20 := h1
        simp only at h2 ⊢
        subst h2
        exact ⟨h1, h1, h1, by rw [if_pos ⟨trivial, trivial, h1⟩]⟩
      . rw [if_neg (fun hc => h hc.2.2)]
        rfl
    . intro _ _ h
      refine ⟨by decide, by decide, ?_⟩
      rw [ToIssuerD, e]
      simp only
      rw [if_neg (by rw [h]; simp)]
      rfl
  . intro _ _ h
    refine ⟨by decide, by decide, ?_⟩
    rw [ToIssuerD, if_neg (by rw [h]; simp)]
    rfl
theorem h26 : c_ext_ToIssuer.ok Try.prog GL 26 := con_ok (H := {}) (mkEnv_ok (gl := GL) (l := [(70, i70)]) (q := []) (d := []) _ tyOk (by kernel_rfl) ⟨i70_ok, trivial⟩ trivial trivial) (by kernel_rfl) (by kernel_rfl) (Eq.mp e26 k26)
def t17 : Prop :=
  ∀ (x : q1), (q27 x) -> lenB x.1 <= q121 -> q62 <= q64 /\ ∃ (I : q10), ∃ (μ : q11), (x.1 = x.1 /\ I (q219, q21, ()) ((false, q21, ()), ())) /\ ∀ (y : q4) (z : (Bool × Int × Unit) × Unit),
  (q33 y) -> (wbZ z.1.1 /\ wiZ z.1.2.1 /\ True) /\ True -> I y z -> (decide (y.1 <= (100 : Int)) = true -> ∃ (I_1 : q10), ∃ (μ_1 : q11), (Value.bool true = Value.bool true /\ y.1 = y.1 /\ x.1
  = x.1 /\ I_1 (q21, y.2.1, ()) ((z.1.1, z.1.2.1, ()), ())) /\ ∀ (y_1 : q4) (z_1 : (Bool × Int × Unit) × Unit), (q33 y_1) -> (wbZ z_1.1.1 /\ wiZ z_1.1.2.1 /\ True) /\ True -> I_1 y_1 z_1 ->
  (decide (y_1.1 < q23) = true -> q62 <= q64 /\ True /\ (∀ (y_2 : q9), (q117 y_2) -> (y_2.1, y_2.2.1) = BasicD (decide (y_1.1 = q37), y.1) -> (decide (q185 y_2) = true -> True) /\ (q148 y_2)
  /\ (decide (q185 y_2) = true -> True) /\ (q148 y_2) /\ (q147 y_2) /\ (decide (q185 y_2) = true -> (decide (q185 y_2) == true) = true) /\ ((q149 y_2 x) = true -> ((decide (y_1.1 = q37),
  y.1), q21) = ToBasicD x.1) /\ ((q149 y_2 x) = false -> Value.bool true = Value.bool true /\ y.1 = y.1 /\ x.1 = x.1 /\ I_1 (wrZ (q35 y_1), y_1.2.1, ()) ((z_1.1.1, z_1.1.2.1, ()), ()) /\ μ_1
  (wrZ (q35 y_1), y_1.2.1, ()) ((z_1.1.1, z_1.1.2.1, ()), ()) < μ_1 y_1 z_1)) /\ True) /\ (decide (y_1.1 < q23) = false -> x.1 = x.1 /\ I (wrZ (q35 y), y_1.2.1, ()) ((z_1.1.1, z_1.1.2.1, ()),
  ()) /\ μ (wrZ (q35 y), y_1.2.1, ()) ((z_1.1.1, z_1.1.2.1, ()), ()) < μ y z)) /\ (decide (y.1 <= (100 : Int)) = false -> ((false, q21), q136) = ToBasicD x.1)
theorem e17 : t17 = Con.vc c_r15_ToBasic GL (mkEnvO ty [(56, conSem c_r15_Basic)] [] [] [0, 2, 3, 4, 5, 6, 7, 8, 10, 14, 34] [1000000]) {} Try.f17.ntmps Try.f17.results.toList (bodyOf Try.f17) := by kernel_rfl
theorem k17 : t17 := by
  unfold t17
  delta q1 q27 q121 q62 q64 q10 q11 q219 q21 q4 q33 wbZ wiZ q23 q9 q117 q37 q185 q148 q147 q149 wrZ q35 q136 wyZ q193
  rintro ⟨b, _⟩ hx hp
  have hp : b.length ≤ 2000000 := hp
  have hb : Kd.wf BY b := hx.1
  try dsimp +instances only [dft_int, dft_sl, dft_str]
  simp only [true_and, and_true, eq_self_iff_true, implies_true, reduceCtorEq, false_implies, true_implies, decide_eq_true_eq, decide_eq_false_iff_not, beq_self_eq_true, Bool.not_eq_true', ne_eq, Decidable.not_not, List.nil_append, List.length_singleton, List.length_cons, List.length_nil, Nat.zero_add, Nat.add_zero, Nat.mul_one, and_self, beq_iff_eq, Bool.not_true, Bool.not_false, Bool.not_eq_false', Bool.cond_false_right, Bool.and_eq_true, imp_self, Bool.not_eq_true, Bool.cond_true_left, Bool.or_eq_true]
  refine ⟨by decide, ?_⟩
  refine ⟨fun y _ => -1 ≤ y.1 ∧ y.1 ≤ 101 ∧ ∀ v : Bool × Int, v.2 < y.1 → BasicD v ≠ (b, 0), fun y _ => (101 - y.1).toNat, ⟨by decide, by decide, fun v h1 h2 => by have := (basicD_rng h2).1; simp only at h1; omega⟩, ?_⟩
  rintro ⟨i, r1, _⟩ ⟨⟨z1, z2, _⟩, _⟩ _ _ ⟨h1, h2, h3⟩
  simp only at h1 h2 h3 ⊢
  refine ⟨fun hi => ?_, fun hi => ?_⟩
  . refine ⟨fun y _ => 0 ≤ y.1 ∧ y.1 ≤ 2 ∧ ∀ k : Int, 0 ≤ k → k < y.1 → BasicD (decide (k = 1), i) ≠ (b, 0), fun y _ => (2 - y.1).toNat, ⟨Int.le_refl 0, show (0 : Int) ≤ 2 by decide, fun k h4 h5 => by simp only at h5; omega⟩, ?_⟩
    rintro ⟨j, r2, _⟩ ⟨⟨y1, y2, _⟩, _⟩ _ _ ⟨h4, h5, h6⟩
    simp only at h4 h5 h6 ⊢
    refine ⟨fun hj => ⟨by decide, ?_⟩, fun hj => ?_⟩
    . rintro ⟨c, f, _⟩ _ e
      simp only at e ⊢
      refine ⟨fun h => ?_, fun h => ?_⟩
      . obtain ⟨rfl, rfl⟩ := h
        exact (basic_back e.symm).symm
      . rw [wrapM (j + 1) (by omega) (by omega)]
        refine ⟨⟨by omega, by omega, fun k hk1 hk2 => ?_⟩, by omega⟩
        by_cases hk : k = j
        . subst hk
          intro hc
          rw [← e] at hc
          obtain ⟨rfl, rfl⟩ := Prod.mk.inj hc
          simp at h
        . exact h6 k hk1 (by omega)
    . rw [wrapM (i + 1) (by omega) (by omega)]
      refine ⟨⟨by omega, by omega, fun v hv => ?_⟩, by omega⟩
      by_cases hv2 : v.2 = i
      . obtain ⟨c, m⟩ := v
        simp only at hv2
        subst hv2
        cases c with
        | false => exact h6 0 (by decide) (by omega)
        | true => exact h6 1 (by decide) (by omega)
      . exact h3 v (by omega)
  . by_cases hz : (ToBasicD b).2 = 0
    . have h4 := basic_once (v := (ToBasicD b).1) hb (Prod.ext rfl hz)
      have h5 := basicD_rng h4
      exact absurd h4 (h3 _ (by omega))
    . exact (basic_bad hz).symm
theorem h17 : c_r15_ToBasic.ok Try.prog GL 17 := conO_ok (H := {}) (mkEnvO_ok (gl := GL) (l := [(56, conSem c_r15_Basic)]) (q := []) (d := []) _ [1000000] tyOk (by kernel_rfl) ⟨h56.call, trivial⟩ trivial trivial) (by kernel_rfl) (by kernel_rfl) (Eq.mp e17 k17)
def t19 : Prop :=
  ∀ (x : q1), (q27 x) -> lenB x.1 <= q121 -> ∃ (I : Int × Int × Int × Unit -> Unit -> Prop), ∃ (μ : Int × Int × Int × Unit -> Unit -> Nat), (x.1 = x.1 /\ I (q37, q21, q21, ()) ()) /\ ∀ (y :
  Int × Int × Int × Unit) (z : Unit), (wiZ y.1 /\ wiZ y.2.1 /\ Kd.wf q88 y.2.2.1 /\ True) -> True -> I y z -> (decide (y.1 < (512 : Int)) = true -> True /\ (∀ (y_1 : q9), (q117 y_1) ->
  (y_1.1, y_1.2.1) = UsageD (IntKind.wrap IntKind.u16 y.1) -> (decide (y_1.1 = x.1) = true -> (IntKind.wrap IntKind.u16 y.1, q21) = ToUsageD x.1) /\ (decide (y_1.1 = x.1) = false -> x.1 = x.1
  /\ I (wrZ (y.1 + q37), y.2.1, y.2.2.1, ()) () /\ μ (wrZ (y.1 + q37), y.2.1, y.2.2.1, ()) () < μ y z)) /\ True) /\ (decide (y.1 < (512 : Int)) = false -> (q21, q136) = ToUsageD x.1)
theorem e19 : t19 = Con.vc c_r15_ToUsage GL (mkEnvO ty [(61, conSem c_r15_Usage)] [] [] [0, 2, 3, 4, 5, 8, 21] [1000000]) {} Try.f19.ntmps Try.f19.results.toList (bodyOf Try.f19) := by kernel_rfl
theorem k19 : t19 := by
  unfold t19
  delta q1 q27 q121 q37 q21 wiZ q88 q9 q117 wrZ q136 wyZ
  rintro ⟨b, _⟩ hx hp
  have hp : b.length ≤ 2000000 := hp
  have hb : Kd.wf BY b := hx.1
  try dsimp +instances only [dft_int, dft_sl, dft_str]
  simp only [true_and, and_true, eq_self_iff_true, implies_true, reduceCtorEq, false_implies, true_implies, decide_eq_true_eq, decide_eq_false_iff_not, beq_self_eq_true, Bool.not_eq_true', ne_eq, Decidable.not_not, List.nil_append, List.length_singleton, List.length_cons, List.length_nil, Nat.zero_add, Nat.add_zero, Nat.mul_one, and_self, beq_iff_eq, Bool.not_true, Bool.not_false, Bool.not_eq_false', Bool.cond_false_right, Bool.and_eq_true, imp_self, Bool.not_eq_true, Bool.cond_true_left, Bool.or_eq_true]
  try simp only
  refine ⟨fun y _ => 1 ≤ y.1 ∧ y.1 ≤ 512 ∧ ∀ n : Int, 1 ≤ n → n < y.1 → UsageD n ≠ (b, 0), fun y _ => (512 - y.1).toNat, ⟨by decide, by decide, fun n h1 h2 => by simp only at h2; omega⟩, ?_⟩
  rintro ⟨i, r1, r2, _⟩ _ _ ⟨h1, h2, h3⟩
  simp only at h1 h2 h3 ⊢
  have hw : IntKind.wrap .u16 i = i := by
    simp [IntKind.wrap, IntKind.signed, IntKind.bits]; omega
  rw [hw]
  refine ⟨fun hi => ?_, fun hi => ?_⟩
  . rintro ⟨c, f, _⟩ _ e
    simp only at e ⊢
    have hf : f = 0 := by
      have := congrArg Prod.snd e
      rw [UsageD, if_neg (by omega)] at this
      exact this
    subst hf
    refine ⟨fun h => ?_, fun h => ?_⟩
    . subst h
      exact (usage_back (by omega) e.symm).symm
    . rw [wrapM (i + 1) (by omega) (by omega)]
      refine ⟨⟨by omega, by omega, fun n hn1 hn2 => ?_⟩, by omega⟩
      by_cases hn : n = i
      . subst hn
        intro hc
        rw [← e] at hc
        exact h (Prod.mk.inj hc).1
      . exact h3 n hn1 (by omega)
  . by_cases hz : (ToUsageD b).2 = 0
    . have h4 := usage_once (n := (ToUsageD b).1) hb (Prod.ext rfl hz)
      have h5 : (ToUsageD b).1 ≠ 0 ∧ (ToUsageD b).1 < 512 ∧ 0 ≤ (ToUsageD b).1 := by
        have h6 := usage_rng (b := b) hz
        exact h6
      exact absurd h4 (h3 _ (by omega) (by omega))
    . exact (usage_bad hz).symm
theorem h19 : c_r15_ToUsage.ok Try.prog GL 19 := conO_ok (H := {}) (mkEnvO_ok (gl := GL) (l := [(61, conSem c_r15_Usage)]) (q := []) (d := []) _ [1000000] tyOk (by kernel_rfl) ⟨h61.call, trivial⟩ trivial trivial) (by kernel_rfl) (by kernel_rfl) (Eq.mp e19 k19)
def t21 : Prop :=
  ∀ (x : q1), (q27 x) -> lenB x.1 <= q121 -> lenB x.1 <= q26 /\ (∀ (y : q8), (q65 y) -> (y.1, y.2.1, y.2.2.1) = takeD x.1 -> q62 <= q64 /\ True /\ (∀ (y_1 : q4), (q33 y_1) -> (y_1.1, y_1.2.1)
  = ToIntD y.1.2 -> True /\ (∀ (y : q9), (q117 y) -> (y.1, y.2.1) = NumberD y_1.1 -> (decide (y.2.1 ≠ q179) = false -> True) /\ (decide (y.2.1 ≠ q179) = false -> (decide (y.2.1 ≠ q179) ==
  false) = true /\ True) /\ (decide (y.2.1 ≠ q179) = false -> (decide (y.2.1 ≠ q179) == false) = true) /\ ((q152 y y_1) = false -> True) /\ (q150 y y_1) /\ ((q152 y y_1) = false -> True) /\
  (q150 y y_1) /\ ((q152 y y_1) = false -> (q151 y y_1) = true /\ (q151 y y_1) = true /\ True) /\ ((q152 y y_1) = false -> (q151 y y_1) = true) /\ ((bif bif decide (y.2.1 ≠ q179) then true
  else decide (y_1.2.1 ≠ q21) then true else decide (y.1 ≠ x.1)) = true -> (q21, q136) = ToNumberD x.1) /\ ((bif bif decide (y.2.1 ≠ q179) then true else decide (y_1.2.1 ≠ q21) then true else
  decide (y.1 ≠ x.1)) = false -> (y_1.1, q21) = ToNumberD x.1)) /\ True) /\ True) /\ True
theorem e21 : t21 = Con.vc c_r15_ToNumber GL (mkEnvO ty [(64, conSem c_r01_Take), (65, conSem c_r02_ToInt), (66, conSem c_r15_Number)] [] [] [0, 2, 3, 4, 7, 8, 9, 10, 40] [1000000]) {} Try.f21.ntmps Try.f21.results.toList (bodyOf Try.f21) := by kernel_rfl
theorem k21 : t21 := by
  unfold t21
  delta q1 q27 q121 q26 q8 q65 q62 q64 q4 q33 q9 q117 q179 q152 q150 q151 q21 q136 wyZ q183 wiZ q208 q221
  rintro ⟨b, _⟩ hx hp
  have hp : b.length ≤ 2000000 := hp
  have hb : Kd.wf BY b := hx.1
  try dsimp +instances only [dft_int, dft_sl, dft_str]
  simp only [true_and, and_true, eq_self_iff_true, implies_true, reduceCtorEq, false_implies, true_implies, decide_eq_true_eq, decide_eq_false_iff_not, beq_self_eq_true, Bool.not_eq_true', ne_eq, Decidable.not_not, List.nil_append, List.length_singleton, List.length_cons, List.length_nil, Nat.zero_add, Nat.add_zero, Nat.mul_one, and_self, beq_iff_eq, Bool.not_true, Bool.not_false, Bool.not_eq_false', Bool.cond_false_right, Bool.and_eq_true, imp_self, Bool.not_eq_true, Bool.cond_true_left, Bool.or_eq_true]
  refine ⟨by show b.length ≤ _; omega, ?_⟩
  rintro ⟨⟨t, c⟩, i, f, _⟩ _ e
  simp only at e ⊢
  refine ⟨by decide, ?_⟩
  rintro ⟨n, g, _⟩ hn e2
  simp only at e2 hn ⊢
  rintro ⟨d, q, _⟩ _ e3
  simp only at e3 ⊢
  refine ⟨fun h => ?_, fun h => ?_⟩
  . by_cases hz : (ToNumberD b).2 = 0
    . have h4 := number_once (n := (ToNumberD b).1) hb (Prod.ext rfl hz)
      obtain ⟨h5, h6⟩ := number_guess hz
      rw [← e] at h5 h6
      simp only at h5 h6
      rw [← e2] at h5 h6
      simp only at h5 h6
      rw [h5, ← e3] at h4
      obtain ⟨rfl, rfl⟩ := Prod.mk.inj h4
      rcases h with (h | h) | h
      . exact absurd rfl h
      . exact absurd h6 h
      . exact absurd rfl h
    . exact (number_bad hz).symm
  . simp only [Bool.or_eq_false_iff] at h
    obtain ⟨⟨h4, h5⟩, h6⟩ := h
    replace h4 : q = 0 := Classical.not_not.1 (of_decide_eq_false h4)
    replace h6 : d = b := Classical.not_not.1 (of_decide_eq_false h6)
    subst h4
    subst h6
    exact (number_back hn.1 e3.symm).symm
theorem h21 : c_r15_ToNumber.ok Try.prog GL 21 := conO_ok (H := {}) (mkEnvO_ok (gl := GL) (l := [(64, conSem c_r01_Take), (65, conSem c_r02_ToInt), (66, conSem c_r15_Number)]) (q := []) (d := []) _ [1000000] tyOk (by kernel_rfl) ⟨h64.call, h65.call, h66.call, trivial⟩ trivial trivial) (by kernel_rfl) (by kernel_rfl) (Eq.mp e21 k21)
def t23 : Prop :=
  ∀ (x : q1), (q27 x) -> lenB x.1 <= q121 -> ∃ (I : Int × Int × Int × Unit -> Unit -> Prop), ∃ (μ : Int × Int × Int × Unit -> Unit -> Nat), (x.1 = x.1 /\ I (q21, q21, q21, ()) ()) /\ ∀ (y :
  Int × Int × Int × Unit) (z : Unit), (wiZ y.1 /\ wiZ y.2.1 /\ wiZ y.2.2.1 /\ True) -> True -> I y z -> (decide (y.1 <= q61) = true -> True /\ (∀ (y_1 : q9), (q117 y_1) -> (y_1.1, y_1.2.1) =
  ReasonD y.1 -> (decide (q185 y_1) = true -> True) /\ (q148 y_1) /\ (decide (q185 y_1) = true -> True) /\ (q148 y_1) /\ (q147 y_1) /\ (decide (q185 y_1) = true -> (decide (q185 y_1) == true)
  = true) /\ ((q149 y_1 x) = true -> (y.1, q21) = ToReasonD x.1) /\ ((q149 y_1 x) = false -> x.1 = x.1 /\ I (wrZ (y.1 + q37), y.2.1, y.2.2.1, ()) () /\ μ (wrZ (y.1 + q37), y.2.1, y.2.2.1, ())
  () < μ y z)) /\ True) /\ (decide (y.1 <= q61) = false -> (q21, q136) = ToReasonD x.1)
theorem e23 : t23 = Con.vc c_r15_ToReason GL (mkEnvO ty [(69, conSem c_r15_Reason)] [] [] [0, 2, 3, 4, 5, 6, 8, 24] [1000000]) {} Try.f23.ntmps Try.f23.results.toList (bodyOf Try.f23) := by kernel_rfl
theorem k23 : t23 := by
  unfold t23
  delta q1 q27 q121 q21 wiZ q61 q9 q117 q185 q148 q147 q149 wrZ q37 q136 wyZ
  rintro ⟨b, _⟩ hx hp
  have hp : b.length ≤ 2000000 := hp
  have hb : Kd.wf BY b := hx.1
  try dsimp +instances only [dft_int, dft_sl, dft_str]
  simp only [true_and, and_true, eq_self_iff_true, implies_true, reduceCtorEq, false_implies, true_implies, decide_eq_true_eq, decide_eq_false_iff_not, beq_self_eq_true, Bool.not_eq_true', ne_eq, Decidable.not_not, List.nil_append, List.length_singleton, List.length_cons, List.length_nil, Nat.zero_add, Nat.add_zero, Nat.mul_one, and_self, beq_iff_eq, Bool.not_true, Bool.not_false, Bool.not_eq_false', Bool.cond_false_right, Bool.and_eq_true, imp_self, Bool.not_eq_true, Bool.cond_true_left, Bool.or_eq_true]
  try simp only
  refine ⟨fun y _ => 0 ≤ y.1 ∧ y.1 ≤ 11 ∧ ∀ n : Int, 0 ≤ n → n < y.1 → ReasonD n ≠ (b, 0), fun y _ => (11 - y.1).toNat, ⟨by decide, by decide, fun n h1 h2 => by simp only at h2; omega⟩, ?_⟩
  rintro ⟨i, r1, r2, _⟩ _ _ ⟨h1, h2, h3⟩
  simp only at h1 h2 h3 ⊢
  refine ⟨fun hi => ?_, fun hi => ?_⟩
  . rintro ⟨c, f, _⟩ _ e
    simp only at e ⊢
    refine ⟨fun h => ?_, fun h => ?_⟩
    . obtain ⟨rfl, rfl⟩ := h
      exact (reason_back e.symm).symm
    . rw [wrapM (i + 1) (by omega) (by omega)]
      refine ⟨⟨by omega, by omega, fun n hn1 hn2 => ?_⟩, by omega⟩
      by_cases hn : n = i
      . subst hn
        intro hc
        rw [← e] at hc
        obtain ⟨rfl, rfl⟩ := Prod.mk.inj hc
        simp at h
      . exact h3 n hn1 (by omega)
  . by_cases hz : (ToReasonD b).2 = 0
    . have h4 := reason_once (n := (ToReasonD b).1) hb (Prod.ext rfl hz)
      have h5 := reason_rng (b := b) hz
      exact absurd h4 (h3 _ (by omega) (by omega))
    . exact (reason_bad hz).symm
theorem h23 : c_r15_ToReason.ok Try.prog GL 23 := conO_ok (H := {}) (mkEnvO_ok (gl := GL) (l := [(69, conSem c_r15_Reason)]) (q := []) (d := []) _ [1000000] tyOk (by kernel_rfl) ⟨h69.call, trivial⟩ trivial trivial) (by kernel_rfl) (by kernel_rfl) (Eq.mp e23 k23)
def t25 : Prop :=
  ∀ (x : q9), (q117 x) -> lenB x.1 <= q121 -> q129 <= q64 /\ q129 <= q64 /\ (decide ((20 : Int) <= (lnZ x.1)) = true -> ∃ (I : Int × Unit -> List Int × List Int × Unit -> Prop), ∃ (μ : Int ×
  Unit -> List Int × List Int × Unit -> Nat), (Value.bool true = Value.bool true /\ q21 = q21 /\ x.1 = x.1 /\ x.2.1 = x.2.1 /\ I (q21, ()) ([q21, q21, q21, q21, q21, q21, q21, q21, q21, q21,
  q21, q21, q21, q21, q21, q21, q21, q21, q21, q21], [q21, q21, q21, q21, q21, q21, q21, q21, q21, q21, q21, q21, q21, q21, q21, q21, q21, q21, q21, q21], ())) /\ ∀ (y : q0) (z : List Int ×
  List Int × Unit), (q17 y) -> (wyZ z.1 /\ wyZ z.2.1 /\ True) -> I y z -> (decide (y.1 < (20 : Int)) = true -> (q21 <= wrZ (wrZ ((lnZ x.1) - (20 : Int)) + y.1) /\ wrZ (wrZ ((lnZ x.1) - (20 :
  Int)) + y.1) < (lnZ x.1)) /\ (q21 <= y.1 /\ y.1 < (↑q129 : Int) /\ y.1 < (lnZ z.2.1)) /\ Value.bool true = Value.bool true /\ q21 = q21 /\ x.1 = x.1 /\ x.2.1 = x.2.1 /\ I (wrZ (y.1 + q37),
  ()) (z.1, List.set z.2.1 (Int.toNat y.1) (List.getD x.1 (Int.toNat (wrZ (wrZ ((lnZ x.1) - (20 : Int)) + y.1))) q80), ()) /\ μ (wrZ (y.1 + q37), ()) (z.1, List.set z.2.1 (Int.toNat y.1)
  (List.getD x.1 (Int.toNat (wrZ (wrZ ((lnZ x.1) - (20 : Int)) + y.1))) q80), ()) < μ y z) /\ (decide (y.1 < (20 : Int)) = false -> List.length z.2.1 = q129 /\ True /\ (∀ (y : q1), (q27 y) ->
  y.1 = SubjectD z.2.1 -> (decide (x.2.1 = q37) = true -> List.length z.2.1 = q129 /\ True /\ (∀ (y : q1), (q27 y) -> y.1 = IssuerD z.2.1 -> (q154 y x z) /\ (q156 y x z)) /\ True) /\ (decide
  (x.2.1 = q37) = false -> (q154 y x z) /\ (q156 y x z))) /\ True)) /\ (decide ((20 : Int) <= (lnZ x.1)) = false -> q129 = q129 /\ True /\ (∀ (y : q1), (q27 y) -> y.1 = SubjectD [q21, q21,
  q21, q21, q21, q21, q21, q21, q21, q21, q21, q21, q21, q21, q21, q21, q21, q21, q21, q21] -> (decide (x.2.1 = q37) = true -> q129 = q129 /\ True /\ (∀ (y : q1), (q27 y) -> y.1 = IssuerD
  [q21, q21, q21, q21, q21, q21, q21, q21, q21, q21, q21, q21, q21, q21, q21, q21, q21, q21, q21, q21] -> (q155 y x) /\ (q153 y x)) /\ True) /\ (decide (x.2.1 = q37) = false -> (q155 y x) /\
  (q153 y x))) /\ True)
theorem e25 : t25 = Con.vc c_r15_ToKey GL (mkEnvO ty [(28, conSem c_r15_Subject), (73, conSem c_r15_Issuer)] [] [] [0, 1, 4, 5, 6, 7, 8, 11, 13, 29, 36] [1000000]) {} Try.f25.ntmps Try.f25.results.toList (bodyOf Try.f25) := by kernel_rfl
theorem k25 : t25 := by
  unfold t25
  delta q9 q117 q121 q129 q64 lnZ q21 q0 q17 wyZ wrZ q37 q80 q1 q27 q154 q156 q155 q153 wiZ q221 q207 q179 q193
  rintro ⟨b, m, _⟩ hx hp
  have hp : b.length ≤ 2000000 := hp
  have hb : Kd.wf BY b := hx.1
  try dsimp +instances only [dft_int, dft_sl, dft_str]
  simp only [true_and, and_true, eq_self_iff_true, implies_true, reduceCtorEq, false_implies, true_implies, decide_eq_true_eq, decide_eq_false_iff_not, beq_self_eq_true, Bool.not_eq_true', ne_eq, Decidable.not_not, List.nil_append, List.length_singleton, List.length_cons, List.length_nil, Nat.zero_add, Nat.add_zero, Nat.mul_one, and_self, beq_iff_eq, Bool.not_true, Bool.not_false, Bool.not_eq_false', Bool.cond_false_right, Bool.and_eq_true, imp_self, Bool.not_eq_true, Bool.cond_true_left, Bool.or_eq_true]
  rw [subject_ref hb, issuer_ref hb]
  have fin : ∀ {k : List Int}, k = lastK b → ∀ (y : List Int × Unit), (Kd.int IntKind.u8).sl.wf y.fst → y.fst = SubjectD k → (m = 1 → ∀ (y : List Int × Unit), (Kd.int IntKind.u8).sl.wf y.fst → y.fst = IssuerD k → (¬ y.fst = b → (zero20, (150 : Int)) = if m = 1 then (if IssuerD (lastK b) = b then (lastK b, 0) else (zero20, 150)) else (if SubjectD (lastK b) = b then (lastK b, 0) else (zero20, 150))) ∧ (y.fst = b → (k, (0 : Int)) = if m = 1 then (if IssuerD (lastK b) = b then (lastK b, 0) else (zero20, 150)) else (if SubjectD (lastK b) = b then (lastK b, 0) else (zero20, 150)))) ∧ (¬ m = 1 → (¬ y.fst = b → (zero20, (150 : Int)) = if m = 1 then (if IssuerD (lastK b) = b then (lastK b, 0) else (zero20, 150)) else (if SubjectD (lastK b) = b then (lastK b, 0) else (zero20, 150))) ∧ (y.fst = b → (k, (0 : Int)) = if m = 1 then (if IssuerD (lastK b) = b then (lastK b, 0) else (zero20, 150)) else (if SubjectD (lastK b) = b then (lastK b, 0) else (zero20, 150)))) := by
    rintro k rfl ⟨s, _⟩ _ e
    simp only at e
    refine ⟨fun hm => ?_, fun hm => ⟨fun h => ?_, fun h => ?_⟩⟩
    . rintro ⟨u, _⟩ _ e2
      simp only at e2 ⊢
      refine ⟨fun h => ?_, fun h => ?_⟩
      . rw [if_pos hm, if_neg (by rw [← e2]; exact h)]
      . rw [if_pos hm, if_pos (by rw [← e2]; exact h)]
    . rw [if_neg hm, if_neg (by rw [← e]; exact h)]
    . rw [if_neg hm, if_pos (by rw [← e]; exact h)]
  refine ⟨by decide, by decide, fun h20 => ?_, fun h20 => ?_⟩
  . have hK : lastK b = b.drop (b.length - 20) := by rw [lastK, if_pos (by omega)]
    have hKl := lastK_len b
    refine ⟨fun y z => 0 ≤ y.1 ∧ y.1 ≤ 20 ∧ z.1.length = 20 ∧ z.2.1 = fillK (lastK b) y.1.toNat, fun y _ => (20 - y.1).toNat, ⟨by decide, by decide, rfl, (fill_zero _).symm⟩, ?_⟩
    rintro ⟨i, _⟩ ⟨z1, z2, _⟩ _ _ ⟨h1, h2, h3, h4⟩
    simp only at h1 h2 h3 h4 ⊢
    subst h4
    have hfl := fill_len hKl (i := i.toNat) (by omega)
    refine ⟨fun hi => ?_, fun hi => ?_⟩
    . rw [wrapM ((b.length : Int) - 20) (by omega) (by omega), wrapM ((b.length : Int) - 20 + i) (by omega) (by omega), wrapM (i + 1) (by omega) (by omega)]
      have hg : b.getD ((b.length : Int) - 20 + i).toNat 0 = (lastK b).getD i.toNat 0 := by
        rw [hK, ngetD_drop]
        congr 1; omega
      rw [hg]
      refine ⟨⟨by omega, by omega⟩, ⟨h1, by omega, by rw [hfl]; omega⟩, ⟨by omega, by omega, h3, ?_⟩, by omega⟩
      rw [fill_set hKl (by omega)]
      congr 1; omega
    . have e20 : i.toNat = 20 := by omega
      rw [e20, fill_all hKl]
      refine ⟨hKl, fun y hy e => ?_⟩
      obtain ⟨f1, f2⟩ := fin rfl y hy e
      refine ⟨fun hm => ⟨hKl, fun u hu e2 => ?_⟩, fun hm => ?_⟩
      . obtain ⟨g1, g2⟩ := f1 hm u hu e2
        exact ⟨fun h => ⟨h3, g1 h⟩, fun h => ⟨hKl, h3, hKl, g2 h⟩⟩
      . obtain ⟨g1, g2⟩ := f2 hm
        exact ⟨fun h => ⟨h3, g1 h⟩, fun h => ⟨hKl, h3, hKl, g2 h⟩⟩
  . have hK : [0, 0, 0, 0, 0, 0, 0, 0, 0, 0, 0, 0, 0, 0, 0, 0, 0, 0, 0, 0] = lastK b := by rw [lastK, if_neg (by omega)]; rfl
    exact fin hK
theorem h25 : c_r15_ToKey.ok Try.prog GL 25 := conO_ok (H := {}) (mkEnvO_ok (gl := GL) (l := [(28, conSem c_r15_Subject), (73, conSem c_r15_Issuer)]) (q := []) (d := []) _ [1000000] tyOk (by kernel_rfl) ⟨h28.call, h73.call, trivial⟩ trivial trivial) (by kernel_rfl) (by kernel_rfl) (Eq.mp e25 k25)
end Go.Proofs.Ytiofbnlbfmbodaa
end
section
namespace Go.Proofs.Ytiofbnlbfmbodaa
open Go Go.Vc Go.Pl Go.Proofs
def c_law15_names : Con := { args := [], res := [.dat .bool], pre := fun _ => True, post := fun _ y => y.1 = true }
def c_law15_ExtSmallReads : Con := { args := [.dat BY], res := [.dat .bool], pre := fun x => ABulk [.dat BY] x ≤ 1048576, post := fun _ y => y.1 = true }
end Go.Proofs.Ytiofbnlbfmbodaa
end
section
namespace Go.Proofs.Ytiofbnlbfmbodaa
open Go Go.Vc Go.Pl Go.Proofs
set_option maxHeartbeats 4000000
set_option maxRecDepth 20000
set_option linter.unusedVariables false
set_option linter.unusedSimpArgs false
abbrev q12 := (Bool × Unit -> Unit × Unit × Unit -> Prop)
abbrev q13 := (Unit × Unit × Unit)
abbrev q236 (p0 : q1) := (List.drop (0 : Nat) ([] ++ p0.1 ++ [(90 : Int)]))
abbrev q232 (p0 : q1) := (List.take (Int.toNat (wrZ ((lnZ p0.1) + (1 : Int))) - (0 : Nat)) (q236 p0) = p0.1 ++ bs { data := #[(90 : UInt8)] })
abbrev q211 (p0 : q1) (p1 : q9) := (decide (q232 p0) = true -> List.length p1.1 = (20 : Nat) /\ True)
abbrev q214 (p0 : q1) := (List.take (Int.toNat (wrZ ((lnZ p0.1) + (1 : Int))) - (0 : Nat)) (q236 p0) = p0.1 ++ bs { data := #[(90 : UInt8)] })
abbrev q228 (p0 : q1) := (decide (List.take (Int.toNat (wrZ ((lnZ p0.1) + (1 : Int))) - (0 : Nat)) (q236 p0) = p0.1 ++ bs { data := #[(90 : UInt8)] }) == true)
abbrev q238 (p0 : q1) (p1 : q1) := ((((decide (p0.1 = p1.1) = true -> True /\ (∀ (y : q7), (wbZ y.1 /\ True) -> y.1 = true -> y.1 = true /\ True) /\ True) /\ (decide (p0.1 = p1.1) = !true
  -> false = true /\ True)) /\ True) /\ True)
abbrev q231 (p0 : q1) (p1 : q1) := ((q238 p0 p1) /\ True)
abbrev q210 (p0 : q9) (p1 : q1) := (True /\ (∀ (y : q1), (wyZ y.1 /\ True) -> y.1 = SubjectD p0.1 -> (q231 p1 y) /\ True) /\ True)
abbrev q212 (p0 : q1) (p1 : q1) := ((q231 p0 p1) /\ True)
abbrev q237 := (((((false = true /\ True) /\ True) /\ True) /\ True) /\ True)
abbrev q215 := (q237 /\ True)
abbrev q234 := (q237 /\ True)
abbrev q233 := (q237 /\ q237 /\ True)
abbrev q213 := (q234 /\ q233 /\ True)
abbrev q230 (p0 : q1) (p1 : q1) := (((q238 p0 p1) /\ True) /\ True)
abbrev q209 (p0 : q1) (p1 : q9) (p2 : q9) := ((decide (q232 p0) = true -> (q228 p0) = true /\ True /\ (∀ (y_11 : q1), (wyZ y_11.1 /\ True) -> y_11.1 = SubjectD p1.1 -> (((q228 p0) = true /\
  True /\ (∀ (y : q1), (wyZ y.1 /\ True) -> y.1 = SubjectD p2.1 -> (q231 y_11 y) /\ True) /\ True) /\ True) /\ ((q228 p0) = true /\ True /\ (∀ (y : q1), (wyZ y.1 /\ True) -> y.1 = SubjectD
  p2.1 -> (q230 y_11 y) /\ (q230 y_11 y) /\ True) /\ True) /\ True) /\ True) /\ (decide (q232 p0) = !true -> q234 /\ q233 /\ True))
abbrev q157 (p0 : q1) (p1 : q9) (p2 : q9) := ((q211 p0 p1) /\ ((decide (q214 p0) = true -> (q228 p0) = true /\ True /\ (∀ (y_11 : q1), (wyZ y_11.1 /\ True) -> y_11.1 = SubjectD p1.1 ->
  ((List.length p2.1 = q207 /\ (q210 p2 y_11) /\ True) /\ True) /\ (List.length p2.1 = q207 /\ ((q210 p2 y_11) /\ True) /\ (True /\ (∀ (y : q1), (wyZ y.1 /\ True) -> y.1 = SubjectD p2.1 ->
  (q212 y_11 y) /\ (q212 y_11 y) /\ True) /\ True) /\ True) /\ True) /\ True) /\ (decide (q214 p0) = !true -> (q215 /\ True) /\ q213 /\ True)) /\ ((q211 p0 p2) /\ (q209 p0 p1 p2) /\ True) /\
  True)
abbrev q158 (p0 : q1) (p1 : q9) (p2 : q9) := ((q211 p0 p1) /\ ((q211 p0 p2) /\ (q209 p0 p2 p1) /\ True) /\ True)
abbrev q191 := (fun (x x_1 : Int) => decide (x = x_1))
abbrev q216 := ((q234 /\ q233 /\ True) /\ True)
abbrev q159 (p0 : q7) (p1 : q9) (p2 : q9) := ((bif bif p0.1 then eqL q191 p1.1 p2.1 else false then decide (p1.2.1 = p2.2.1) else false) = !true -> ((((q215 /\ True) /\ q213 /\ True) /\
  q216 /\ True) /\ (q216 /\ True) /\ True) /\ True)
abbrev q190 (p0 : q7) (p1 : q9) (p2 : q9) := (bif p0.1 then eqL (fun (x x_1 : Int) => decide (x = x_1)) p1.1 p2.1 else false)
abbrev q217 (p0 : q7) (p1 : q9) (p2 : q9) := ((bif p0.1 then eqL (fun (x x_1 : Int) => decide (x = x_1)) p1.1 p2.1 else false) == true)
abbrev q160 (p0 : q7) (p1 : q9) (p2 : q9) := ((q190 p0 p1 p2) = true -> (q217 p0 p1 p2) = true /\ (q217 p0 p1 p2) = true /\ True)
abbrev q218 (p0 : q7) (p1 : q4) (p2 : q4) := (bif p0.1 then decide (p1.1 = p2.1) else false)
abbrev q161 (p0 : q7) (p1 : q4) (p2 : q4) := ((q218 p0 p1 p2) = true -> ((q218 p0 p1 p2) == true) = true /\ ((q218 p0 p1 p2) == true) = true /\ True)
abbrev q162 (p0 : q7) (p1 : q9) (p2 : q9) := ((q190 p0 p1 p2) = true -> (q217 p0 p1 p2) = true)
abbrev q163 (p0 : q7) (p1 : q9) (p2 : q9) := ((bif bif p0.1 then eqL q191 p1.1 p2.1 else false then decide (p1.2.1 = p2.2.1) else false) == true)
abbrev q164 (p0 : q7) (p1 : q9) (p2 : q9) := (bif bif p0.1 then eqL q191 p1.1 p2.1 else false then decide (p1.2.1 = p2.2.1) else false)
abbrev q165 (p0 : q7) (p1 : q4) (p2 : q4) := ((q218 p0 p1 p2) = true -> ((q218 p0 p1 p2) == true) = true)
abbrev q166 (p0 : q1) := (q179 <= wrZ ((lnZ p0.1) + (1 : Int)) /\ wrZ ((lnZ p0.1) + (1 : Int)) <= (lnZ ([] ++ p0.1 ++ [(90 : Int)]) - q182))
abbrev q167 (p0 : q1) := (List.take (Int.toNat (lnZ p0.1) - q182) (q236 p0))
abbrev q168 (p0 : q9) := (Kd.wf (Kd.arr q207 q221) p0.1 /\ wiZ p0.2.1 /\ True)
abbrev q169 (p0 : q7) := (p0.1 = true -> (p0.1 == true) = true /\ (p0.1 == true) = true /\ True)
abbrev q170 (p0 : q7) (p1 : q4) (p2 : q4) := ((q218 p0 p1 p2) = true -> True)
abbrev q171 (p0 : (Bool × Int) × Int × Unit) (p1 : (Bool × Int) × Int × Unit) := (decide (p0.1.1 = p1.1.1) && decide (p0.1.2 = p1.1.2))
abbrev q172 (p0 : q7) (p1 : q9) := (p0.1 = true -> List.length p1.1 = q207 /\ True)
abbrev q173 (p0 : q7) := (p0.1 = true -> (p0.1 == true) = true)
abbrev q189 (p0 : q7) (p1 : q9) (p2 : q9) (p3 : q1) := ((q169 p0) /\ ((q173 p0) /\ ((q160 p0 p1 p2) /\ ((q162 p0 p1 p2) /\ (((q164 p0 p1 p2) = true -> (q163 p0 p1 p2) = true /\ (q163 p0 p1
  p2) = true /\ (q166 p3) /\ List.length p3.1 + q29 <= q24 /\ ((q157 p3 p1 p2) /\ (q158 p3 p2 p1) /\ True) /\ True) /\ (q159 p0 p1 p2)) /\ True) /\ True) /\ True) /\ True)
def t13 : Prop :=
  ∀ (x : Unit), True -> True -> (9 : Nat) <= q64 /\ (9 : Nat) = (9 : Nat) /\ (9 : Nat) = (9 : Nat) /\ (decide ((14 : Int) = (14 : Int)) && (decide ((15 : Int) = (15 : Int)) && (decide ((17 :
  Int) = (17 : Int)) && (decide ((19 : Int) = (19 : Int)) && (decide ((20 : Int) = (20 : Int)) && (decide ((21 : Int) = (21 : Int)) && (decide ((30 : Int) = (30 : Int)) && (decide ((35 : Int)
  = (35 : Int)) && (decide ((37 : Int) = (37 : Int)) && true))))))))) = true
theorem e13 : t13 = Con.vc c_law15_names GL (mkEnv ty [] [] [] [0, 1]) {} Try.f13.ntmps Try.f13.results.toList (bodyOf Try.f13) := by kernel_rfl
theorem k13 : t13 := by
  unfold t13
  delta q64
  intro _ _ _
  first | rfl | decide
theorem h13 : c_law15_names.ok Try.prog GL 13 := con_ok (H := {}) (mkEnv_ok (gl := GL) (l := []) (q := []) (d := []) _ tyOk (by kernel_rfl) trivial trivial trivial) (by kernel_rfl) (by kernel_rfl) (Eq.mp e13 k13)
noncomputable def i6 : CallSem := vcFn (mkEnv ty [] [] [] [0, 2]) {} Try.f6.ntmps Try.f6.results.toList (bodyOf Try.f6)
theorem i6_ok : CallOk Try.prog GL 6 i6 := inl_ok {} (mkEnv_ok (gl := GL) (l := []) (q := []) (d := []) _ tyOk (by kernel_rfl) trivial trivial trivial) (by kernel_rfl) (by kernel_rfl)
noncomputable def i12 : CallSem := vcFn (mkEnvO ty [] [] [] [0, 1, 4] [1000000]) {} Try.f12.ntmps Try.f12.results.toList (bodyOf Try.f12)
theorem i12_ok : CallOk Try.prog GL 12 i12 := inlO_ok {} (mkEnvO_ok (gl := GL) (l := []) (q := []) (d := []) _ [1000000] tyOk (by kernel_rfl) trivial trivial trivial) (by kernel_rfl) (by kernel_rfl)
def t5 : Prop :=
  ∀ (x : q1), (q27 x) -> ABulk [AK.dat q34] x <= (1048576 : Nat) -> q28 < q29 /\ (q28 + List.length x.1) * q29 <= q25 /\ q28 + List.length x.1 <= q24 /\ q28 < q29 /\ (List.length ([] ++ x.1)
  + q29) * q29 <= q25 /\ List.length ([] ++ x.1) + q29 <= q24 /\ (q21 <= (lnZ x.1) /\ (lnZ x.1) <= (lnZ ([] ++ x.1 ++ [(90 : Int)]))) /\ lenB (q167 x) <= q121 /\ (∀ (y : (Bool × Int) × Int ×
  Unit), (Kd.wf (Kd.pair Kd.bool (Kd.int IntKind.i64)) y.1 /\ wiZ y.2.1 /\ True) -> (y.1, y.2.1) = ToBasicD (q167 x) -> q62 <= q64 /\ lenB x.1 <= q121 /\ (∀ (y_1 : (Bool × Int) × Int × Unit),
  (Kd.wf (Kd.pair Kd.bool (Kd.int IntKind.i64)) y_1.1 /\ wiZ y_1.2.1 /\ True) -> (y_1.1, y_1.2.1) = ToBasicD x.1 -> q62 <= q64 /\ ∃ (J : q12), (((q171 y y_1) = true -> True) /\ ((q171 y y_1)
  = true -> True) /\ ((q171 y y_1) = true -> ((q171 y y_1) == true) = true /\ ((q171 y y_1) == true) = true /\ True) /\ ((q171 y y_1) = true -> ((q171 y y_1) == true) = true) /\ y_1.2.1 =
  y_1.2.1 /\ y.2.1 = y.2.1 /\ q28 = q28 /\ Int.toNat (lnZ x.1) - q28 = Int.toNat (lnZ x.1) - q28 /\ Value.bool false = Value.bool false /\ x.1 = x.1 /\ [] ++ x.1 ++ [(90 : Int)] = [] ++ x.1
  ++ [(90 : Int)] /\ y.1.1 = y.1.1 /\ y.1.2 = y.1.2 /\ y_1.1.1 = y_1.1.1 /\ y_1.1.2 = y_1.1.2 /\ J (bif decide (y.1.1 = y_1.1.1) && decide (y.1.2 = y_1.1.2) then decide (y.2.1 = y_1.2.1) else
  false, ()) ((), (), ())) /\ ∀ (u : q7) (z : q13), (wbZ u.1 /\ True) -> True /\ True /\ True -> J u z -> lenB (q167 x) <= q121 /\ (∀ (y_2 : q4), (Kd.wf q88 y_2.1 /\ wiZ y_2.2.1 /\ True) ->
  (y_2.1, y_2.2.1) = ToUsageD (q167 x) -> lenB x.1 <= q121 /\ (∀ (y_3 : q4), (Kd.wf q88 y_3.1 /\ wiZ y_3.2.1 /\ True) -> (y_3.1, y_3.2.1) = ToUsageD x.1 -> ∃ (J : q12), ((u.1 = true -> True)
  /\ (u.1 = true -> True) /\ (q169 u) /\ (q173 u) /\ (q170 u y_2 y_3) /\ (q170 u y_2 y_3) /\ (q161 u y_2 y_3) /\ (q165 u y_2 y_3) /\ y_3.2.1 = y_3.2.1 /\ y_3.1 = y_3.1 /\ y_2.2.1 = y_2.2.1 /\
  y_2.1 = y_2.1 /\ q28 = q28 /\ Int.toNat (lnZ x.1) - q28 = Int.toNat (lnZ x.1) - q28 /\ Value.bool false = Value.bool false /\ x.1 = x.1 /\ [] ++ x.1 ++ [(90 : Int)] = [] ++ x.1 ++ [(90 :
  Int)] /\ y.1.1 = y.1.1 /\ y.1.2 = y.1.2 /\ y_1.1.1 = y_1.1.1 /\ y_1.1.2 = y_1.1.2 /\ J (bif bif u.1 then decide (y_2.1 = y_3.1) else false then decide (y_2.2.1 = y_3.2.1) else false, ())
  ((), (), ())) /\ ∀ (u : q7) (z : q13), (wbZ u.1 /\ True) -> True /\ True /\ True -> J u z -> lenB (q167 x) <= q121 /\ (∀ (y_4 : q4), (q33 y_4) -> (y_4.1, y_4.2.1) = ToNumberD (q167 x) ->
  lenB x.1 <= q121 /\ (∀ (y_5 : q4), (q33 y_5) -> (y_5.1, y_5.2.1) = ToNumberD x.1 -> ∃ (J : q12), ((u.1 = true -> True) /\ (u.1 = true -> True) /\ (q169 u) /\ (q173 u) /\ (q170 u y_4 y_5) /\
  (q170 u y_4 y_5) /\ (q161 u y_4 y_5) /\ (q165 u y_4 y_5) /\ y_5.2.1 = y_5.2.1 /\ y_5.1 = y_5.1 /\ y_4.2.1 = y_4.2.1 /\ y_4.1 = y_4.1 /\ y_3.1 = y_3.1 /\ y_2.1 = y_2.1 /\ q28 = q28 /\
  Int.toNat (lnZ x.1) - q28 = Int.toNat (lnZ x.1) - q28 /\ Value.bool false = Value.bool false /\ x.1 = x.1 /\ [] ++ x.1 ++ [(90 : Int)] = [] ++ x.1 ++ [(90 : Int)] /\ y.1.1 = y.1.1 /\ y.1.2
  = y.1.2 /\ y_1.1.1 = y_1.1.1 /\ y_1.1.2 = y_1.1.2 /\ J (bif bif u.1 then decide (y_4.1 = y_5.1) else false then decide (y_4.2.1 = y_5.2.1) else false, ()) ((), (), ())) /\ ∀ (u : q7) (z :
  q13), (wbZ u.1 /\ True) -> True /\ True /\ True -> J u z -> lenB (q167 x) <= q121 /\ (∀ (y_6 : q4), (q33 y_6) -> (y_6.1, y_6.2.1) = ToReasonD (q167 x) -> lenB x.1 <= q121 /\ (∀ (y_7 : q4),
  (q33 y_7) -> (y_7.1, y_7.2.1) = ToReasonD x.1 -> ∃ (J : q12), ((u.1 = true -> True) /\ (u.1 = true -> True) /\ (q169 u) /\ (q173 u) /\ (q170 u y_6 y_7) /\ (q170 u y_6 y_7) /\ (q161 u y_6
  y_7) /\ (q165 u y_6 y_7) /\ y_7.2.1 = y_7.2.1 /\ y_7.1 = y_7.1 /\ y_6.2.1 = y_6.2.1 /\ y_6.1 = y_6.1 /\ y_3.1 = y_3.1 /\ y_2.1 = y_2.1 /\ q28 = q28 /\ Int.toNat (lnZ x.1) - q28 = Int.toNat
  (lnZ x.1) - q28 /\ Value.bool false = Value.bool false /\ x.1 = x.1 /\ [] ++ x.1 ++ [(90 : Int)] = [] ++ x.1 ++ [(90 : Int)] /\ y.1.1 = y.1.1 /\ y.1.2 = y.1.2 /\ y_1.1.1 = y_1.1.1 /\
  y_1.1.2 = y_1.1.2 /\ J (bif bif u.1 then decide (y_6.1 = y_7.1) else false then decide (y_6.2.1 = y_7.2.1) else false, ()) ((), (), ())) /\ ∀ (u : q7) (z : q13), (wbZ u.1 /\ True) -> True
  /\ True /\ True -> J u z -> lenB (q167 x) <= q121 /\ (∀ (y_8 : q9), (q168 y_8) -> (y_8.1, y_8.2.1) = ToSubjectD (q167 x) -> q129 <= q64 /\ q129 = q129 /\ lenB x.1 <= q121 /\ (∀ (y_9 : q9),
  (q168 y_9) -> (y_9.1, y_9.2.1) = ToSubjectD x.1 -> q129 <= q64 /\ q129 = q129 /\ ∃ (J : q12), ((q172 u y_8) /\ (q172 u y_9) /\ (q169 u) /\ (q173 u) /\ ((q190 u y_8 y_9) = true -> True) /\
  ((q190 u y_8 y_9) = true -> True) /\ (q160 u y_8 y_9) /\ (q162 u y_8 y_9) /\ y_9.2.1 = y_9.2.1 /\ y_8.2.1 = y_8.2.1 /\ y_7.1 = y_7.1 /\ y_6.1 = y_6.1 /\ y_3.1 = y_3.1 /\ y_2.1 = y_2.1 /\
  q28 = q28 /\ Int.toNat (lnZ x.1) - q28 = Int.toNat (lnZ x.1) - q28 /\ Value.bool false = Value.bool false /\ x.1 = x.1 /\ [] ++ x.1 ++ [(90 : Int)] = [] ++ x.1 ++ [(90 : Int)] /\ y.1.1 =
  y.1.1 /\ y.1.2 = y.1.2 /\ y_1.1.1 = y_1.1.1 /\ y_1.1.2 = y_1.1.2 /\ y_8.1 = y_8.1 /\ y_9.1 = y_9.1 /\ J (bif bif u.1 then eqL q191 y_8.1 y_9.1 else false then decide (y_8.2.1 = y_9.2.1)
  else false, ()) ((), (), ())) /\ ∀ (u : q7) (z : q13), (wbZ u.1 /\ True) -> True /\ True /\ True -> J u z -> lenB (q167 x) <= q121 /\ (∀ (y : q9), (q168 y) -> (y.1, y.2.1) = ToIssuerD (q167
  x) -> List.length y_8.1 = q129 /\ lenB x.1 <= q121 /\ (∀ (y_10 : q9), (q168 y_10) -> (y_10.1, y_10.2.1) = ToIssuerD x.1 -> List.length y_9.1 = q129 /\ ((q172 u y) /\ ((q172 u y_10) /\ (q189
  u y y_10 x) /\ True) /\ True) /\ ((q172 u y_10) /\ ((q172 u y) /\ (q189 u y y_10 x) /\ True) /\ True) /\ True) /\ True) /\ True) /\ True) /\ True) /\ True) /\ True) /\ True) /\ True) /\
  True) /\ True) /\ True) /\ True
theorem e5 : t5 = Con.vc c_law15_ExtSmallReads GL (mkEnvO ty [(6, i6), (12, i12), (16, conSem c_ext_ToBasic), (17, conSem c_r15_ToBasic), (18, conSem c_ext_ToUsage), (19, conSem c_r15_ToUsage), (20, conSem c_ext_ToNumber), (21, conSem c_r15_ToNumber), (22, conSem c_ext_ToReason), (23, conSem c_r15_ToReason), (24, conSem c_ext_ToSubject), (25, conSem c_r15_ToKey), (26, conSem c_ext_ToIssuer), (27, conSem c_ext_Subject), (28, conSem c_r15_Subject), (13, conSem c_law15_names)] [] [] [0, 2, 3, 4, 5, 6, 7, 8, 9, 10, 11, 12, 13, 14] [1000000,3000014]) {joins := [5,8,11,14,17],news := [(5,8,1000000+4)]} Try.f5.ntmps Try.f5.results.toList (bodyOf Try.f5) := by kernel_rfl
theorem k5 : t5 := by
  unfold t5
  delta q1 q27 q34 q28 q29 q25 q24 q21 lnZ q167 q121 wiZ q62 q64 q12 q171 q7 q13 wbZ q4 q88 q169 q173 q170 q161 q165 q33 q9 q168 q129 q172 q190 q160 q162 q191 q189 wyZ q221 q182 q236 q218 q207 q217 q164 q163 q166 q157 q158 q159 q179 wrZ q211 q214 q228 q210 q212 q215 q213 q209 q216 q232 q231 q237 q234 q233 q230 q238
  rintro ⟨b, _⟩ hx hp
  have hl : b.length ≤ 1048576 := by
    have hp : Kd.bulk (.sl (.int .u8)) b + 0 ≤ 1048576 := hp
    rw [bulk_ints] at hp
    omega
  clear hp
  try dsimp +instances only [dft_int, dft_sl, dft_str]
  simp only [true_and, and_true, eq_self_iff_true, implies_true, reduceCtorEq, false_implies, true_implies, decide_eq_true_eq, decide_eq_false_iff_not, beq_self_eq_true, Bool.not_eq_true', ne_eq, Decidable.not_not, List.nil_append, List.length_singleton, List.length_cons, List.length_nil, Nat.zero_add, Nat.add_zero, Nat.mul_one, and_self, beq_iff_eq, Bool.not_true, Bool.not_false, Bool.not_eq_false', Bool.cond_false_right, Bool.and_eq_true, imp_self, Bool.not_eq_true, Bool.cond_true_left, Bool.or_eq_true]
  have hl2 : (b ++ [(90 : Int)]).length = b.length + 1 := by simp
  have e0 : List.take ((b.length : Int).toNat - 0) (List.drop 0 (b ++ [90])) = b := by
    rw [List.drop_zero, show (b.length : Int).toNat - 0 = b.length by omega, List.take_left]
  have e1 : List.take ((IntKind.i64.wrap ((b.length : Int) + 1)).toNat - 0) (List.drop 0 (b ++ [90])) = b ++ bs { data := #[90] } := by
    rw [wrapM _ (by omega) (by omega), List.drop_zero, show ((b.length : Int) + 1).toNat - 0 = (b ++ [(90 : Int)]).length by rw [hl2]; omega, List.take_length]
    rfl
  have e2 : (0 ≤ IntKind.i64.wrap ((b.length : Int) + 1) ∧ IntKind.i64.wrap ((b.length : Int) + 1) ≤ (((b ++ [(90 : Int)]).length - 0 : Nat) : Int)) := by
    rw [wrapM _ (by omega) (by omega), hl2]; omega
  simp only [e0, e1, e2, true_implies, not_true_eq_false, false_implies, and_true, true_and]
  have hL : lenB b ≤ 2000000 := by show b.length ≤ _; omega
  refine ⟨by decide, by omega, by omega, by decide, by omega, by omega, ⟨by omega, by rw [hl2]; omega⟩, hL, ?_⟩
  rintro ⟨v, f, _⟩ hw1 q1
  simp only at q1 hw1 ⊢
  refine ⟨by decide, hL, ?_⟩
  rintro ⟨v', f', _⟩ hw2 q2
  simp only at q2 ⊢
  obtain ⟨rfl, rfl⟩ := Prod.mk.inj (q2.trans q1.symm)
  refine ⟨by decide, fun u _ => u.1 = true, by simp, ?_⟩
  clear q1 q2
  rintro ⟨ok, _⟩ _ _ hok
  simp only at hok ⊢
  subst hok
  refine ⟨hL, ?_⟩
  rintro ⟨n, f, _⟩ _ q1
  simp only at q1 ⊢
  refine ⟨hL, ?_⟩
  rintro ⟨n', f', _⟩ _ q2
  simp only at q2 ⊢
  obtain ⟨rfl, rfl⟩ := Prod.mk.inj (q2.trans q1.symm)
  refine ⟨fun u _ => u.1 = true, by simp, ?_⟩
  clear q1 q2
  rintro ⟨ok, _⟩ _ _ hok
  simp only at hok ⊢
  subst hok
  refine ⟨hL, ?_⟩
  rintro ⟨n, f, _⟩ _ q1
  simp only at q1 ⊢
  refine ⟨hL, ?_⟩
  rintro ⟨n', f', _⟩ _ q2
  simp only at q2 ⊢
  obtain ⟨rfl, rfl⟩ := Prod.mk.inj (q2.trans q1.symm)
  refine ⟨fun u _ => u.1 = true, by simp, ?_⟩
  clear q1 q2
  rintro ⟨ok, _⟩ _ _ hok
  simp only at hok ⊢
  subst hok
  refine ⟨hL, ?_⟩
  rintro ⟨n, f, _⟩ _ q1
  simp only at q1 ⊢
  refine ⟨hL, ?_⟩
  rintro ⟨n', f', _⟩ _ q2
  simp only at q2 ⊢
  obtain ⟨rfl, rfl⟩ := Prod.mk.inj (q2.trans q1.symm)
  refine ⟨fun u _ => u.1 = true, by simp, ?_⟩
  clear q1 q2
  rintro ⟨ok, _⟩ _ _ hok
  simp only at hok ⊢
  subst hok
  refine ⟨hL, ?_⟩
  rintro ⟨k, f, _⟩ ⟨hk, _⟩ q1
  simp only at q1 hk ⊢
  refine ⟨by decide, hL, ?_⟩
  rintro ⟨k', f', _⟩ _ q2
  simp only at q2 ⊢
  obtain ⟨rfl, rfl⟩ := Prod.mk.inj (q2.trans q1.symm)
  have hkl : List.length (α := Int) k' = 20 := hk.1
  refine ⟨by decide, fun u _ => u.1 = true, ⟨fun _ => hkl, fun _ => hkl, by simp [eqL_refl]⟩, ?_⟩
  clear q1 q2
  rintro ⟨ok, _⟩ _ _ hok
  simp only at hok ⊢
  subst hok
  refine ⟨hL, ?_⟩
  rintro ⟨k, f, _⟩ ⟨hk, _⟩ q1
  simp only at q1 hk ⊢
  refine ⟨hkl, hL, ?_⟩
  rintro ⟨k', f', _⟩ _ q2
  simp only at q2 ⊢
  obtain ⟨rfl, rfl⟩ := Prod.mk.inj (q2.trans q1.symm)
  have hkl2 : List.length (α := Int) k' = 20 := hk.1
  have hq : eqL (fun x y : Int => decide (x = y)) k' k' = true := eqL_refl k'
  have hlen : b.length + 1 ≤ 9223372036854775807 := by omega
  have hS : ∀ (y : List Int × Unit), (Kd.int IntKind.u8).sl.wf y.fst → y.fst = SubjectD k' → ∀ (z : List Int × Unit), (Kd.int IntKind.u8).sl.wf z.fst → z.fst = SubjectD k' → ¬y.fst = z.fst → False := fun y _ h z _ h2 h3 => h3 (h.trans h2.symm)
  refine ⟨hkl, ?_⟩
  simp only [hq, hkl2, hlen, decide_true, Bool.and_self, true_and, and_true, and_self, true_implies, implies_true, not_true_eq_false, false_implies, imp_self, Bool.true_eq_false]
  first | done | exact hS | (refine ⟨?_, hS⟩; rw [wrapM _ (by omega) (by omega), hl2]; omega) | (refine ⟨?_, hS⟩; rw [wrapM _ (by omega) (by omega), hl2]; simp)
theorem h5 : c_law15_ExtSmallReads.ok Try.prog GL 5 := conO_ok (H := {joins := [5,8,11,14,17],news := [(5,8,1000000+4)]}) (mkEnvO_ok (gl := GL) (l := [(6, i6), (12, i12), (16, conSem c_ext_ToBasic), (17, conSem c_r15_ToBasic), (18, conSem c_ext_ToUsage), (19, conSem c_r15_ToUsage), (20, conSem c_ext_ToNumber), (21, conSem c_r15_ToNumber), (22, conSem c_ext_ToReason), (23, conSem c_r15_ToReason), (24, conSem c_ext_ToSubject), (25, conSem c_r15_ToKey), (26, conSem c_ext_ToIssuer), (27, conSem c_ext_Subject), (28, conSem c_r15_Subject), (13, conSem c_law15_names)]) (q := []) (d := []) _ [1000000,3000014] tyOk (by kernel_rfl) ⟨i6_ok, i12_ok, h16.call, h17.call, h18.call, h19.call, h20.call, h21.call, h22.call, h23.call, h24.call, h25.call, h26.call, h27.call, h28.call, h13.call, trivial⟩ trivial trivial) (by kernel_rfl) (by kernel_rfl) (Eq.mp e5 k5)
end Go.Proofs.Ytiofbnlbfmbodaa
end
