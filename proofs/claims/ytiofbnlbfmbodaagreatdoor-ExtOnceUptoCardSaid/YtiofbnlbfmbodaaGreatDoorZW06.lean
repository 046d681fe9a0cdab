/- Texts of a verified walk, led together: Name3A, Name3W, Name4A, Name4W. -/
import Derived.Test.YtiofbnlbfmbodaaGreatDoorZW05
import Derived.Test.YtiofbnlbfmbodaaGreatDoorZV12
set_option linter.unusedVariables false
set_option linter.unusedSimpArgs false
section
namespace Go.Proofs.YtiofbnlbfmbodaaGreatDoor
open Go Go.Vc Go.Pl Go.Proofs
def c_slices_Equal_int_int : Con := { args := [.dat (.sl I64), .dat (.sl I64)], res := [.dat .bool], pre := fun _ => True, post := fun x y => y.1 = decide (x.1 = x.2.1) }
def c_oid_Begins : Con := { args := [.dat (.sl I64), .dat (.sl I64)], res := [.dat .bool], pre := fun _ => True, post := fun x y => y.1 = decide (x.1.take x.2.1.length = x.2.1) }
def c_name_only : Con := { args := [.dat BY, .dat I64], res := [.dat BY, .dat .bool], pre := fun x => lenB x.1 ≤ 100000000, post := fun x y => y.1 = (oneD x.1).1.2 ∧ y.2.1 = (decide ((oneD x.1).2 = 0) && decide ((oneD x.1).1.1 = x.2.1)) }
end Go.Proofs.YtiofbnlbfmbodaaGreatDoor
end
section
namespace Go.Proofs.YtiofbnlbfmbodaaGreatDoor
open Go Go.Vc Go.Pl Go.Proofs
set_option linter.unusedVariables false
set_option linter.unusedSimpArgs false
set_option maxRecDepth 20000
theorem edft_eq : Kd.dft (Kd.pair (Kd.int IntKind.i64) (Kd.sl (Kd.int IntKind.u8))) = edft := rfl
abbrev q17 := ((Int × List Int) × Int × Unit)
abbrev q145 (p0 : q2) (p1 : q9) := (List.getD p0.1 (Int.toNat p1.1) q382 ≠ List.getD p0.2.1 (Int.toNat p1.1) q382)
abbrev q349 (p0 : q17) := (p0.2.1 = q421)
abbrev q348 (p0 : q17) := (decide (p0.2.1 = q421) == true)
abbrev q146 (p0 : q17) := (decide (q349 p0) = true -> (q348 p0) = true /\ (q348 p0) = true /\ True)
abbrev q147 (p0 : q17) := (Kd.wf q365 p0.1 /\ wiZ p0.2.1 /\ True)
abbrev q148 (p0 : q17) (p1 : q0) := (bif decide (q349 p0) then decide (p0.1.1 = p1.2.1) else false)
abbrev q149 := (100000000 : Nat)
def t155 : Prop :=
  ∀ (x : q2), (Kd.wf q144 x.1 /\ Kd.wf q144 x.2.1 /\ True) -> True -> (decide ((lnZ x.1) ≠ (lnZ x.2.1)) = true -> false = decide (x.1 = x.2.1)) /\ (decide ((lnZ x.1) ≠ (lnZ x.2.1)) = false ->
  ∃ (I : q7), ∃ (μ : q8), ((lnZ x.1) = (lnZ x.1) /\ Value.bool false = Value.bool false /\ x.1 = x.1 /\ x.2.1 = x.2.1 /\ I (q34, false, ()) ()) /\ ∀ (y : q9) (z : Unit), (q74 y) -> True -> I
  y z -> (decide (y.1 < (lnZ x.1)) = true -> (q34 <= y.1 /\ y.1 < (lnZ x.1)) /\ (q34 <= y.1 /\ y.1 < (lnZ x.2.1)) /\ (decide (q145 x y) = true -> false = decide (x.1 = x.2.1)) /\ (decide
  (q145 x y) = false -> (lnZ x.1) = (lnZ x.1) /\ Value.bool false = Value.bool false /\ x.1 = x.1 /\ x.2.1 = x.2.1 /\ I (wrZ (y.1 + q334), y.2.1, ()) () /\ μ (wrZ (y.1 + q334), y.2.1, ()) ()
  < μ y z)) /\ (decide (y.1 < (lnZ x.1)) = false -> true = decide (x.1 = x.2.1)))
theorem e155 : t155 = Con.vc c_slices_Equal_int_int GL (mkEnv ty [] [] [] [0, 1, 4, 5, 10, 12, 13, 14, 24]) {} Tryz.f155.ntmps Tryz.f155.results.toList (bodyOf Tryz.f155) := by kernel_rfl
theorem k155 : t155 := by
  unfold t155
  delta q2 q144 lnZ q7 q8 q34 q9 q74 q145 wrZ q334 q425 wiZ wbZ q382
  rintro ⟨a, b, _⟩ hx hp
  have hl : a.length ≤ 9223372036854775807 := hx.1.1
  try dsimp +instances only [dft_int, dft_sl, dft_str]
  simp only [true_and, and_true, eq_self_iff_true, implies_true, reduceCtorEq, false_implies, true_implies, decide_eq_true_eq, decide_eq_false_iff_not, beq_self_eq_true, Bool.not_eq_true', ne_eq, Decidable.not_not, List.nil_append, List.length_singleton, List.length_cons, List.length_nil, Nat.zero_add, Nat.add_zero, Nat.mul_one, and_self, beq_iff_eq, Bool.not_true, Bool.not_false, Bool.not_eq_false', Bool.cond_false_right, Bool.and_eq_true, imp_self, Bool.not_eq_true, Bool.cond_true_left, Bool.or_eq_true]
  refine ⟨fun h => (decide_eq_false (fun e => h (by rw [e]))).symm, fun h => ?_⟩
  refine ⟨fun y _ => 0 ≤ y.1 ∧ y.1 ≤ a.length ∧ a.take y.1.toNat = b.take y.1.toNat, fun y _ => ((a.length : Int) - y.1).toNat, ⟨Int.le_refl 0, by simp only; omega, rfl⟩, ?_⟩
  rintro ⟨i, q, _⟩ _ _ ⟨i0, i1, e⟩
  simp only at i0 i1 e ⊢
  refine ⟨fun hlt => ⟨⟨i0, hlt⟩, ⟨i0, by omega⟩, fun hne => ?_, fun he => ?_⟩, fun hge => ?_⟩
  . refine (decide_eq_false fun e2 => hne ?_).symm
    rw [e2]
  . rw [wrapM (i + 1) (by omega) (by omega)]
    refine ⟨⟨by omega, by omega, ?_⟩, by omega⟩
    rw [show (i + 1).toNat = i.toNat + 1 by omega, take_snoc a _ (by omega), take_snoc b _ (by omega), e, he]
  . rw [List.take_of_length_le (by omega), List.take_of_length_le (by omega)] at e
    exact (decide_eq_true e).symm
theorem h155 : c_slices_Equal_int_int.ok Tryz.prog GL 155 := con_ok (H := {}) (mkEnv_ok (gl := GL) (l := []) (q := []) (d := []) _ tyOk (by kernel_rfl) trivial trivial trivial) (by kernel_rfl) (by kernel_rfl) (Eq.mp e155 k155)
def t114 : Prop :=
  ∀ (x : q2), (Kd.wf q144 x.1 /\ Kd.wf q144 x.2.1 /\ True) -> True -> (q39 x) /\ (q39 x) /\ (q38 x) /\ (q37 x) /\ (q39 x) /\ (decide (q331 x) = true -> (q40 x) = true /\ (q40 x) = true /\
  True /\ (∀ (y : q4), (q41 y) -> y.1 = decide (List.take (Int.toNat (lnZ x.2.1)) x.1 = x.2.1) -> y.1 = decide (List.take (List.length x.2.1) x.1 = x.2.1)) /\ True) /\ (decide (q331 x) =
  !true -> false = decide (List.take (List.length x.2.1) x.1 = x.2.1))
theorem e114 : t114 = Con.vc c_oid_Begins GL (mkEnv ty [(155, conSem c_slices_Equal_int_int)] [] [] [0, 1, 4]) {} Tryz.f114.ntmps Tryz.f114.results.toList (bodyOf Tryz.f114) := by kernel_rfl
theorem k114 : t114 := by
  unfold t114
  delta q2 q144 q39 q38 q37 q331 q40 q4 q41 lnZ q425 q332 wbZ
  rintro ⟨a, b, _⟩ hx hp
  try dsimp +instances only [dft_int, dft_sl, dft_str]
  simp only [true_and, and_true, eq_self_iff_true, implies_true, reduceCtorEq, false_implies, true_implies, decide_eq_true_eq, decide_eq_false_iff_not, beq_self_eq_true, Bool.not_eq_true', ne_eq, Decidable.not_not, List.nil_append, List.length_singleton, List.length_cons, List.length_nil, Nat.zero_add, Nat.add_zero, Nat.mul_one, and_self, beq_iff_eq, Bool.not_true, Bool.not_false, Bool.not_eq_false', Bool.cond_false_right, Bool.and_eq_true, imp_self, Bool.not_eq_true, Bool.cond_true_left, Bool.or_eq_true]
  refine ⟨fun h => ⟨h, h, by omega, h⟩, fun h => ⟨h, h, fun y _ e => ?_⟩, fun h => ?_⟩
  . rw [e, Int.toNat_natCast]
  . refine (decide_eq_false fun e => h ?_).symm
    have := congrArg List.length e
    rw [List.length_take] at this
    omega
theorem h114 : c_oid_Begins.ok Tryz.prog GL 114 := con_ok (H := {}) (mkEnv_ok (gl := GL) (l := [(155, conSem c_slices_Equal_int_int)]) (q := []) (d := []) _ tyOk (by kernel_rfl) ⟨h155.call, trivial⟩ trivial trivial) (by kernel_rfl) (by kernel_rfl) (Eq.mp e114 k114)
def t193 : Prop :=
  ∀ (x : q0), (q135 x) -> lenB x.1 <= q149 -> lenB x.1 <= q95 /\ (∀ (y : q17), (q147 y) -> (y.1, y.2.1) = oneD x.1 -> q65 <= q61 /\ (decide (q349 y) = true -> True) /\ (decide (q349 y) = true
  -> (q348 y) = true /\ True) /\ (decide (q349 y) = true -> True) /\ (q146 y) /\ (decide (q349 y) = true -> (q348 y) = true) /\ y.1.2 = (oneD x.1).1.2 /\ (q148 y x) = (decide ((oneD x.1).2 =
  q34) && decide ((oneD x.1).1.1 = x.2.1))) /\ True
theorem e193 : t193 = Con.vc c_name_only GL (mkEnv ty [(102, conSem c_der_One)] [] [] [0, 1, 4, 5, 6, 7]) {} Tryz.f193.ntmps Tryz.f193.results.toList (bodyOf Tryz.f193) := by kernel_rfl
theorem k193 : t193 := by
  unfold t193
  delta q0 q135 q149 q95 q17 q147 q65 q61 q349 q348 q146 q148 q34 wyZ wiZ q365 q421 q425 q451
  rintro ⟨b, t, _⟩ hx hp
  have hp : b.length ≤ 100000000 := hp
  try dsimp +instances only [dft_int, dft_sl, dft_str]
  simp only [true_and, and_true, eq_self_iff_true, implies_true, reduceCtorEq, false_implies, true_implies, decide_eq_true_eq, decide_eq_false_iff_not, beq_self_eq_true, Bool.not_eq_true', ne_eq, Decidable.not_not, List.nil_append, List.length_singleton, List.length_cons, List.length_nil, Nat.zero_add, Nat.add_zero, Nat.mul_one, and_self, beq_iff_eq, Bool.not_true, Bool.not_false, Bool.not_eq_false', Bool.cond_false_right, Bool.and_eq_true, imp_self, Bool.not_eq_true, Bool.cond_true_left, Bool.or_eq_true]
  refine ⟨by rw [lenB]; omega, ?_⟩
  rintro ⟨x, e, _⟩ _ h
  simp only at h ⊢
  rw [← h]
  exact ⟨by decide, rfl, rfl⟩
theorem h193 : c_name_only.ok Tryz.prog GL 193 := con_ok (H := {}) (mkEnv_ok (gl := GL) (l := [(102, conSem c_der_One)]) (q := []) (d := []) _ tyOk (by kernel_rfl) ⟨h102.call, trivial⟩ trivial trivial) (by kernel_rfl) (by kernel_rfl) (Eq.mp e193 k193)
end Go.Proofs.YtiofbnlbfmbodaaGreatDoor
end
section
namespace Go.Proofs.YtiofbnlbfmbodaaGreatDoor
open Go Go.Vc Go.Pl Go.Proofs
def c_name_attr : Con := { args := [.dat BY], res := [.dat AT, .dat .bool], pre := fun x => lenB x.1 ≤ 100000000, post := fun x y => attrQ x.1 y.1 y.2.1 = true }
def c_name_Decode : Con := { args := [.dat BY], res := [.own 218 AT, .dat I64], pre := fun x => lenB x.1 ≤ 100000000, post := fun x y => decQ x.1 y.1 y.2.1 = true }
end Go.Proofs.YtiofbnlbfmbodaaGreatDoor
end
section
namespace Go.Proofs.YtiofbnlbfmbodaaGreatDoor
open Go Go.Vc Go.Pl Go.Proofs
set_option linter.unusedVariables false
set_option linter.unusedSimpArgs false
set_option maxRecDepth 20000
abbrev q18 := (List (Int × List Int) × Int × Int × Unit)
abbrev q419 (p0 : q6) := (p0.2.1 = (0 : Int))
abbrev q352 (p0 : q6) := (decide (q419 p0) = true -> (decide (q419 p0) == true) = true /\ (decide (q419 p0) == true) = true /\ True)
abbrev q355 (p0 : q6) := (decide (q419 p0) == true)
abbrev q452 := (Kd.pair (Kd.int IntKind.i64) (Kd.sl (Kd.int IntKind.u8)))
abbrev q428 := (Kd.dft q452)
abbrev q384 (p0 : q6) (p1 : (Int × List Int × Unit) × List (Int × List Int) × List Int × (Int × List Int × Unit) × Unit) := (bif decide (q419 p0) then decide (p0.1 = (List.getD p1.2.1 q416
  q428).1) else false)
abbrev q150 (p0 : q6) (p1 : (Int × List Int × Unit) × List (Int × List Int) × List Int × (Int × List Int × Unit) × Unit) (p2 : q5) := ((q352 p0) /\ ((decide (q419 p0) = true -> (q355 p0) =
  true) /\ (((q384 p0 p1) = true -> True) /\ (((q384 p0 p1) = true -> ((q384 p0 p1) == true) = true /\ True /\ (∀ (y : q4), (wbZ y.1 /\ True) -> y.1 = mayA (p1.2.2.2.1.1, p1.2.2.2.1.2.1) ->
  (attrQ p2.1 (p1.2.2.2.1.1, p1.2.2.2.1.2.1) y.1 = true /\ True) /\ (attrQ p2.1 (p1.2.2.2.1.1, p1.2.2.2.1.2.1) y.1 = true /\ True) /\ True) /\ True) /\ ((q384 p0 p1) = !true -> (attrQ p2.1
  (p1.2.2.2.1.1, p1.2.2.2.1.2.1) false = true /\ True) /\ (attrQ p2.1 (p1.2.2.2.1.1, p1.2.2.2.1.2.1) false = true /\ True) /\ True)) /\ True) /\ True) /\ True)
abbrev q453 := (Kd.int IntKind.i64)
abbrev q429 := (Kd.dft q453)
abbrev q385 (p0 : q0) (p1 : List Int × Bool × Unit) (p2 : q4) (p3 : q5) (p4 : Unit -> (Int × List Int × Unit) × List (Int × List Int) × List Int × (Int × List Int × Unit) × Unit -> Prop)
  (p5 : (Int × List Int × Unit) × List (Int × List Int) × List Int × Unit) := ((p0.2.1 = p0.2.1 /\ Value.bool false = Value.bool false /\ p1.2.1 = p1.2.1 /\ p1.1 = p1.1 /\ p2.1 = p2.1 /\ p3.1
  = p3.1 /\ p4 () ((p5.1.1, p5.1.2.1, ()), p5.2.1, p5.2.2.1, (List.getD p5.2.2.1 (3 : Nat) q429, (List.getD p5.2.1 q416 q428).2, ()), ())) /\ True)
abbrev q151 (p0 : q0) (p1 : List Int × Bool × Unit) (p2 : q4) (p3 : q5) (p4 : Unit -> (Int × List Int × Unit) × List (Int × List Int) × List Int × (Int × List Int × Unit) × Unit -> Prop)
  (p5 : (Int × List Int × Unit) × List (Int × List Int) × List Int × Unit) := (((((2 : Nat) <= (65536 : Nat) /\ (p0.2.1 = p0.2.1 /\ Value.bool false = Value.bool false /\ p1.2.1 = p1.2.1 /\
  p1.1 = p1.1 /\ p2.1 = p2.1 /\ p3.1 = p3.1 /\ p4 () ((p5.1.1, p5.1.2.1, ()), p5.2.1, p5.2.2.1, (List.getD p5.2.2.1 (3 : Nat) q429, (List.getD p5.2.1 q416 q428).2, ()), ())) /\ True) /\ True)
  /\ ((2 : Nat) <= (65536 : Nat) /\ (q385 p0 p1 p2 p3 p4 p5) /\ True) /\ True) /\ ((2 : Nat) <= (65536 : Nat) /\ ((q385 p0 p1 p2 p3 p4 p5) /\ True) /\ True) /\ True)
abbrev q152 (p0 : q0) (p1 : List Int × Bool × Unit) (p2 : q4) (p3 : q5) (p4 : Unit -> (Int × List Int × Unit) × List (Int × List Int) × List Int × (Int × List Int × Unit) × Unit -> Prop)
  (p5 : (Int × List Int × Unit) × List (Int × List Int) × List Int × Unit) := (((q385 p0 p1 p2 p3 p4 p5) /\ True) /\ True)
abbrev q386 (p0 : List Int × Bool × Unit) (p1 : q18) := (bif bif !p0.2.1 then true else decide (p1.2.2.1 ≠ q421) then true else decide ((lnZ p1.1) ≠ (2 : Int)))
abbrev q153 (p0 : List Int × Bool × Unit) (p1 : q18) := ((q386 p0 p1) = false -> ((q386 p0 p1) == false) = true /\ True)
abbrev q357 (p0 : q18) := (p0.2.2.1 ≠ q421)
abbrev q353 := (Kd.dft q452)
abbrev q154 (p0 : List Int × Bool × Unit) (p1 : q18) := (bif bif bif !p0.2.1 then true else decide (q357 p1) then true else decide ((lnZ p1.1) ≠ q343) then true else decide ((List.getD p1.1
  q347 q353).1 ≠ q333))
abbrev q354 (p0 : List Int × Bool × Unit) (p1 : q18) := (bif !p0.2.1 then true else decide (p1.2.2.1 ≠ q421))
abbrev q155 (p0 : List Int × Bool × Unit) (p1 : q18) := ((q354 p0 p1) = false -> ((q354 p0 p1) == false) = true /\ True)
abbrev q156 (p0 : List Int × Bool × Unit) (p1 : q18) := ((q386 p0 p1) == false)
abbrev q387 := (Kd.sl q452)
abbrev q157 (p0 : q18) := (Kd.wf q387 p0.1 /\ wiZ p0.2.1 /\ wiZ p0.2.2.1 /\ True)
abbrev q158 (p0 : List Int × Bool × Unit) (p1 : q18) := (bif bif !p0.2.1 then true else decide (q357 p1) then true else decide ((lnZ p1.1) ≠ q343))
abbrev q159 (p0 : q6) := (decide (q419 p0) = true -> (q355 p0) = true /\ True)
abbrev q160 (p0 : q0) := (bif decide (p0.2.1 ≠ q332) then true else decide ((lnZ p0.1) ≠ (4 : Int)))
abbrev q161 (p0 : q6) := (decide (q419 p0) = true -> (q355 p0) = true)
abbrev q162 (p0 : q0) := (Kd.wf (Kd.sl q425) p0.1 /\ wiZ p0.2.1 /\ True)
abbrev q163 := (Int × List Int × Unit)
abbrev q164 (p0 : q0) := (p0.2.1 ≠ q332)
abbrev q165 (p0 : q6) := (p0.2.1 = q332)
abbrev q356 (p0 : q18) (p1 : q17) := (bif decide (p0.2.2.1 ≠ q421) then true else decide (p1.1.1 ≠ (48 : Int)))
abbrev q166 (p0 : q18) (p1 : q17) := ((q356 p0 p1) = false -> ((q356 p0 p1) == false) = true /\ True)
abbrev q167 (p0 : q18) (p1 : q17) := (bif bif decide (q357 p0) then true else decide (p1.1.1 ≠ (48 : Int)) then true else decide ((16 : Int) < (lnZ p0.1)))
abbrev q168 (p0 : (Int × List Int × Unit) × List (Int × List Int) × List (Int × List Int) × List (Int × List Int) × Unit) (p1 : q6) := (List.getD p0.2.1 (Int.toNat p1.1) q353)
abbrev q388 := (Kd.pair q425 Kd.str)
abbrev q169 := (Kd.sl q388)
abbrev q459 (p0 : q6) (p1 : q163 × List q127 × List Int × q163 × Unit) := (p0.1 = (List.getD p1.2.1 (1 : Nat) (Kd.dft (Kd.pair (Kd.int IntKind.i64) (Kd.sl (Kd.int IntKind.u8))))).1)
abbrev q455 (p0 : q6) (p1 : q163 × List q127 × List Int × q163 × Unit) := (bif decide (p0.2.1 = (0 : Int)) then decide (q459 p0 p1) else false)
abbrev q418 (p0 : q6) (p1 : q163 × List q127 × List Int × q163 × Unit) := ((q455 p0 p1) = true -> True)
abbrev q447 (p0 : q6) (p1 : q163 × List q127 × List Int × q163 × Unit) := ((bif decide (p0.2.1 = (0 : Int)) then decide (q459 p0 p1) else false) == true)
abbrev q449 (p0 : q5) (p1 : q163 × List q127 × List Int × q163 × Unit) (p2 : q4) := (attrQ p0.1 (p1.2.2.2.1.1, p1.2.2.2.1.2.1) p2.1 = true /\ True)
abbrev q448 (p0 : q5) (p1 : q163 × List q127 × List Int × q163 × Unit) := (attrQ p0.1 (p1.2.2.2.1.1, p1.2.2.2.1.2.1) false = true /\ True)
abbrev q417 (p0 : q6) (p1 : q163 × List q127 × List Int × q163 × Unit) (p2 : q5) := (((q455 p0 p1) = true -> (q447 p0 p1) = true /\ True /\ (∀ (y : q4), (wbZ y.1 /\ True) -> y.1 = mayA
  (p1.2.2.2.1.1, p1.2.2.2.1.2.1) -> (q449 p2 p1 y) /\ (q449 p2 p1 y) /\ True) /\ True) /\ ((q455 p0 p1) = !true -> (q448 p2 p1) /\ (q448 p2 p1) /\ True))
abbrev q350 (p0 : q6) (p1 : q163 × List q127 × List Int × q163 × Unit) (p2 : q5) := ((q418 p0 p1) /\ (q417 p0 p1 p2) /\ True)
abbrev q351 (p0 : q6) (p1 : q163 × List q127 × List Int × q163 × Unit) := (bif decide (q419 p0) then decide (q459 p0 p1) else false)
def t187 : Prop :=
  ∀ (x : q5), (q96 x) -> lenB x.1 <= q149 -> q65 <= q61 /\ lenB x.1 <= q149 /\ (∀ (y : List Int × Bool × Unit), (wyZ y.1 /\ wbZ y.2.1 /\ True) -> y.1 = (oneD x.1).1.2 /\ y.2.1 = (decide
  ((oneD x.1).2 = q34) && decide ((oneD x.1).1.1 = q73)) -> lenB y.1 <= q95 /\ (∀ (y_1 : q18), (q157 y_1) -> (y_1.1, y_1.2.1, y_1.2.2.1) = allD y.1 -> ((!y.2.1) = false -> True) /\ ((!y.2.1)
  = false -> ((!y.2.1) == false) = true /\ True) /\ ((!y.2.1) = false -> ((!y.2.1) == false) = true) /\ ((q354 y y_1) = false -> True) /\ (q155 y y_1) /\ (q155 y y_1) /\ ((q354 y y_1) = false
  -> ((q354 y y_1) == false) = true) /\ ((q158 y y_1) = false -> True) /\ ((q158 y y_1) = false -> (q156 y y_1) = true /\ (q34 <= q34 /\ q34 < (lnZ y_1.1)) /\ True) /\ (q153 y y_1) /\ (q153 y
  y_1) /\ (q153 y y_1) /\ ((q158 y y_1) = false -> (q156 y y_1) = true) /\ ((q154 y y_1) = true -> attrQ x.1 (q34, bs { data := #[] }) false = true) /\ ((q154 y y_1) = false -> (q34 <= q34 /\
  q34 < (lnZ y_1.1)) /\ True /\ (∀ (y_2 : q0), (q162 y_2) -> (y_2.1, y_2.2.1) = DecD (List.getD y_1.1 q347 q353).2 -> ∃ (J : Bool × Unit -> q163 × List q127 × List Int × Unit -> Prop),
  ((decide (q164 y_2) = false -> True) /\ (decide (q164 y_2) = false -> (decide (q164 y_2) == false) = true /\ True) /\ (decide (q164 y_2) = false -> (decide (q164 y_2) == false) = true /\
  True) /\ (decide (q164 y_2) = false -> (decide (q164 y_2) == false) = true) /\ ((q160 y_2) = false -> True) /\ ((q160 y_2) = false -> ((q160 y_2) == false) = true /\ True /\ (∀ (y_3 : q4),
  (q41 y_3) -> y_3.1 = decide (List.take (List.length [q67, (5 : Int), q64]) y_2.1 = [q67, (5 : Int), q64]) -> ((!y_3.1) = true -> attrQ x.1 (q34, bs { data := #[] }) false = true) /\
  ((!y_3.1) = false -> y_2.2.1 = y_2.2.1 /\ Value.bool false = Value.bool false /\ y.2.1 = y.2.1 /\ y.1 = y.1 /\ x.1 = x.1 /\ J (false, ()) ((q34, bs { data := #[] }, ()), y_1.1, y_2.1, ())))
  /\ True) /\ ((q160 y_2) = !false -> attrQ x.1 (q34, bs { data := #[] }) false = true)) /\ ∀ (u : q4) (z : q163 × List q127 × List Int × Unit), (q41 u) -> (wiZ z.1.1 /\ wsZ z.1.2.1 /\ True)
  /\ (Kd.wf q125 z.2.1 /\ Kd.wf q144 z.2.2.1 /\ True) -> J u z -> ∃ (J : Unit -> q163 × List q127 × List Int × q163 × Unit -> Prop), ((q34 <= (3 : Int) /\ (3 : Int) < (lnZ z.2.2.1)) /\ (q34
  <= q62 /\ q62 < (lnZ z.2.1)) /\ ((q151 y_2 y u x J z) /\ (q65 <= q61 /\ (q152 y_2 y u x J z) /\ True) /\ True) /\ ((q151 y_2 y u x J z) /\ (q151 y_2 y u x J z) /\ (q65 <= q61 /\ (q152 y_2 y
  u x J z) /\ (q152 y_2 y u x J z) /\ True) /\ True) /\ (q65 <= q61 /\ ((q152 y_2 y u x J z) /\ True) /\ ((q152 y_2 y u x J z) /\ (q152 y_2 y u x J z) /\ True) /\ True) /\ True) /\ ∀ (u :
  Unit) (z : q163 × List q127 × List Int × q163 × Unit), True -> (wiZ z.1.1 /\ wsZ z.1.2.1 /\ True) /\ Kd.wf q125 z.2.1 /\ Kd.wf q144 z.2.2.1 /\ (wiZ z.2.2.2.1.1 /\ wsZ z.2.2.2.1.2.1 /\ True)
  /\ True -> J u z -> True /\ (∀ (y : q6), (q101 y) -> y.1 = (kindD z.2.2.2.1.2.1).1 /\ y.2.1 = (kindD z.2.2.2.1.2.1).2 -> (decide (q165 y) = true -> (q355 y) = true /\ (q34 <= q62 /\ q62 <
  (lnZ z.2.1)) /\ True) /\ (q159 y) /\ (((q159 y) /\ (q150 y z x) /\ True) /\ True) /\ ((q159 y) /\ ((q150 y z x) /\ True) /\ ((q352 y) /\ (((decide (q419 y) = true -> (q355 y) = true) /\
  (q350 y z x) /\ True) /\ True) /\ ((q161 y) /\ ((q350 y z x) /\ True) /\ ((q418 y z) /\ ((q417 y z x) /\ True) /\ (((q351 y z) = true -> (q447 y z) = true /\ True /\ (∀ (y : q4), (q41 y) ->
  y.1 = mayA (z.2.2.2.1.1, z.2.2.2.1.2.1) -> ((q449 x z y) /\ (q449 x z y) /\ True) /\ ((q449 x z y) /\ True) /\ True) /\ True) /\ ((q351 y z) = !true -> ((q448 x z) /\ (q448 x z) /\ True) /\
  ((q448 x z) /\ True) /\ True)) /\ True) /\ True) /\ True) /\ True) /\ True) /\ True) /\ True)) /\ True) /\ True
theorem e187 : t187 = Con.vc c_name_attr GL (mkEnvO ty [(193, conSem c_name_only), (72, conSem c_der_All), (113, conSem c_oid_Decode), (114, conSem c_oid_Begins), (194, conSem c_text_Kind), (195, conSem c_name_may)] [] [] [0, 2, 3, 4, 5, 6, 8, 9, 10, 11, 40, 62] [1000000]) {joins := [8,9], news := [(9,10,218)]} Tryz.f187.ntmps Tryz.f187.results.toList (bodyOf Tryz.f187) := by kernel_rfl
theorem k187 : t187 := by
  unfold t187
  delta q5 q96 q149 q65 q61 wyZ wbZ q34 q73 q95 q18 q157 q354 q155 q158 q156 lnZ q153 q154 q0 q162 q347 q353 q163 q127 q164 q160 q4 q41 q67 q64 wiZ wsZ q125 q144 q62 q151 q152 q6 q101 q165 q355 q159 q150 q352 q419 q350 q161 q418 q417 q351 q447 q449 q448 q387 q421 q357 q343 q386 q333 q425 q452 q332 q365 q429 q416 q428 q385 q384 q455 q459 q451 q453
  rintro ⟨b, _⟩ hx hp
  have hp : b.length ≤ 100000000 := hp
  have hb : Bys b := sl_bys hx.1
  try dsimp +instances only [dft_int, dft_sl, dft_str]
  simp only [true_and, and_true, eq_self_iff_true, implies_true, reduceCtorEq, false_implies, true_implies, decide_eq_true_eq, decide_eq_false_iff_not, beq_self_eq_true, Bool.not_eq_true', ne_eq, Decidable.not_not, List.nil_append, List.length_singleton, List.length_cons, List.length_nil, Nat.zero_add, Nat.add_zero, Nat.mul_one, and_self, beq_iff_eq, Bool.not_true, Bool.not_false, Bool.not_eq_false', Bool.cond_false_right, Bool.and_eq_true, imp_self, Bool.not_eq_true, Bool.cond_true_left, Bool.or_eq_true]
  simp only [edft_eq]
  rw [bs_nil]
  have hol := oneD_len b
  refine ⟨by decide, hp, ?_⟩
  rintro ⟨c, ok, _⟩ _ ⟨ec, eok⟩
  simp only at ec eok ⊢
  subst ec
  refine ⟨by rw [lenB]; omega, ?_⟩
  rintro ⟨l, n, e, _⟩ _ el
  simp only at el ⊢
  have hread : ∀ m, mayA m = true → attrB m = b → ok = true ∧ l = [(6, [85, 4, m.1]), elK m] ∧ e = 0 ∧ DecD [85, 4, m.1] = ([2, 5, 4, m.1], 0) := fun m hm he => by
    obtain ⟨r1, r2, r3⟩ := attr_read hm he
    rw [r2] at el
    simp only [Prod.mk.injEq] at el
    refine ⟨?_, el.1, el.2.2, r3⟩
    rw [eok, r1]
    rfl
  refine ⟨fun h => ⟨h, by decide, ?_⟩, fun h => attrQ_bad fun m hm he => ?_, fun h => ?_⟩
  . simp only [Bool.or_eq_false_iff, decide_eq_false_iff_not, Decidable.not_not] at h
    omega
  . obtain ⟨r1, r2, r3, _⟩ := hread m hm he
    subst r2
    rcases h with ((h | h) | h) | h
    . rw [r1] at h; cases h
    . exact h r3
    . exact h rfl
    . exact h rfl
  have hh := h
  rw [Bool.or_eq_false_iff, Bool.or_eq_false_iff, Bool.or_eq_false_iff, Bool.not_eq_false'] at hh
  obtain ⟨⟨⟨k1, k2⟩, k3⟩, k4⟩ := hh
  have k2 := dec_not k2
  have k3 := dec_not k3
  have k4 := dec_not k4
  have hll := two_list (l := l) (by omega)
  refine ⟨⟨by decide, by omega⟩, ?_⟩
  rintro ⟨arcs, e2, _⟩ _ ed
  simp only at ed ⊢
  have hread2 : ∀ m, mayA m = true → attrB m = b → l.getD 1 edft = elK m ∧ arcs = [2, 5, 4, m.1] ∧ e2 = 0 := fun m hm he => by
    obtain ⟨_, r2, _, r4⟩ := hread m hm he
    rw [r2] at ed ⊢
    have := ed.trans r4
    exact ⟨rfl, (Prod.mk.inj this).1, (Prod.mk.inj this).2⟩
  refine ⟨fun _ z => l = z.2.1 ∧ arcs = z.2.2.1 ∧ arcs.length = 4 ∧ arcs.take 3 = [2, 5, 4] ∧ e2 = 0, ⟨fun h => ⟨h, ?_⟩, fun h => attrQ_bad fun m hm he => ?_⟩, ?_⟩
  . rw [Bool.or_eq_false_iff] at h
    have g1 := dec_not h.1
    have g2 := dec_not h.2
    rintro ⟨q, _⟩ _ eq
    simp only at eq ⊢
    subst eq
    refine ⟨fun h => attrQ_bad fun m hm he => ?_, fun h => ⟨by trivial, by trivial, by omega, of_decide_eq_true h, g1⟩⟩
    obtain ⟨_, r3, _⟩ := hread2 m hm he
    rw [r3] at h
    exact absurd h (by simp)
  . obtain ⟨_, r3, r4⟩ := hread2 m hm he
    rcases h with h | h
    . exact h r4
    . rw [r3] at h; exact h rfl
  rintro ⟨u, _⟩ ⟨⟨z1, z2, _⟩, l', arcs', _⟩ _ _ ⟨j1, j2, j3, j4, j5⟩
  simp only at j1 j2 ⊢
  subst j1
  subst j2
  have harc := four_list (l := arcs) j3 j4
  refine ⟨fun _ z => l = z.2.1 ∧ arcs.getD 3 0 = z.2.2.2.1.1 ∧ (l.getD 1 edft).2 = z.2.2.2.1.2.1, ⟨⟨by decide, by omega⟩, ⟨by decide, by omega⟩, by decide, by trivial, by trivial, by trivial⟩, ?_⟩
  rintro _ ⟨⟨z3, z4, _⟩, l2, arcs2, ⟨k, v, _⟩, _⟩ _ ⟨q1, q2, q3⟩
  simp only at q1 q2 q3 ⊢
  subst q1
  subst q2
  subst q3
  rintro ⟨kd, ke, _⟩ _ ⟨hk1, hk2⟩
  simp only at hk1 hk2 ⊢
  refine ⟨fun h => ⟨h, by decide, by omega⟩, fun h => ⟨h, ?_⟩, fun h => attrQ_bad fun m hm he => ?_⟩
  . rintro ⟨q, _⟩ _ eq
    simp only at eq ⊢
    subst eq
    cases hq : mayA (arcs.getD 3 0, (l.getD 1 edft).2) with
    | true =>
      refine attrQ_iff.2 ⟨fun _ => ⟨hq, ?_⟩, fun h => by cases h⟩
      have ek : ok = true := k1
      rw [eok, Bool.and_eq_true, decide_eq_true_eq, decide_eq_true_eq] at ek
      refine read_attr (l := l) (arcs := arcs) hb ek.1 ek.2 (x := l.getD 0 edft) (y := l.getD 1 edft) (n := n) (by rw [← el, k2]; exact Prod.ext hll rfl) k4 ?_ rfl (by rw [← h.2, ← hk1]) hq
      simp only
      rw [← harc, ← ed, j5]
    | false =>
      refine attrQ_bad fun m hm he => ?_
      obtain ⟨r2, r3, _⟩ := hread2 m hm he
      rw [r2, r3] at hq
      have hq : mayA m = false := hq
      rw [hm] at hq
      cases hq
  . obtain ⟨r2, _, _⟩ := hread2 m hm he
    have hkm := (may_kind hm).1
    rw [r2] at hk1 hk2
    have hk2 : ke = (kindD m.2).2 := hk2
    have hk1 : kd = (kindD m.2).1 := hk1
    rw [Bool.and_eq_false_iff] at h
    rcases h with h | h
    . exact of_decide_eq_false h (hk2.trans hkm)
    . exact of_decide_eq_false h (by rw [r2]; exact hk1)
theorem h187 : c_name_attr.ok Tryz.prog GL 187 := conO_ok (H := {joins := [8,9], news := [(9,10,218)]}) (mkEnvO_ok (gl := GL) (l := [(193, conSem c_name_only), (72, conSem c_der_All), (113, conSem c_oid_Decode), (114, conSem c_oid_Begins), (194, conSem c_text_Kind), (195, conSem c_name_may)]) (q := []) (d := []) _ [1000000] tyOk (by kernel_rfl) ⟨h193.call, h72.call, h113.call, h114.call, h194.call, h195.call, trivial⟩ trivial trivial) (by kernel_rfl) (by kernel_rfl) (Eq.mp e187 k187)
def t174 : Prop :=
  ∀ (x : q5), (q96 x) -> lenB x.1 <= q149 -> lenB x.1 <= q95 /\ (∀ (y : q17), (q147 y) -> (y.1, y.2.1) = oneD x.1 -> q65 <= q61 /\ (decide (y.2.1 ≠ q34) = true -> decQ x.1 [] y.2.1 = true) /\
  (decide (y.2.1 ≠ q34) = false -> lenB y.1.2 <= q95 /\ (∀ (y_1 : q18), (q157 y_1) -> (y_1.1, y_1.2.1, y_1.2.2.1) = allD y.1.2 -> (decide (q357 y_1) = false -> True) /\ (decide (q357 y_1) =
  false -> (decide (q357 y_1) == false) = true /\ True) /\ (decide (q357 y_1) = false -> (decide (q357 y_1) == false) = true /\ True) /\ (decide (q357 y_1) = false -> (decide (q357 y_1) ==
  false) = true) /\ ((q356 y_1 y) = false -> True) /\ (q166 y_1 y) /\ (q166 y_1 y) /\ ((q356 y_1 y) = false -> ((q356 y_1 y) == false) = true) /\ ((q167 y_1 y) = true -> decQ x.1 [] (120 :
  Int) = true) /\ ((q167 y_1 y) = false -> ∃ (I : Int × Int × Unit -> q163 × List q127 × List q127 × List q127 × Unit -> Prop), ∃ (μ : Int × Int × Unit -> q163 × List q127 × List q127 × List
  q127 × Unit -> Nat), ((lnZ y_1.1) = (lnZ y_1.1) /\ Value.bool false = Value.bool false /\ y_1.2.2.1 = y_1.2.2.1 /\ Value.bool false = Value.bool false /\ y.2.1 = y.2.1 /\ x.1 = x.1 /\ I
  (q34, q34, ()) ((y.1.1, y.1.2, ()), y_1.1, [], [], ())) /\ ∀ (y_2 : q6) (z : q163 × List q127 × List q127 × List q127 × Unit), (q101 y_2) -> (wiZ z.1.1 /\ wyZ z.1.2.1 /\ True) /\ (Kd.wf
  q125 z.2.1 /\ Kd.wf q169 z.2.2.1 /\ Kd.wf q169 z.2.2.2.1 /\ True) -> I y_2 z -> (decide (y_2.1 < (lnZ y_1.1)) = true -> (q34 <= y_2.1 /\ y_2.1 < (lnZ z.2.1)) /\ q65 <= q61 /\ lenB (q168 z
  y_2).2 <= q149 /\ (∀ (y_3 : q127 × Bool × Unit), (Kd.wf q89 y_3.1 /\ wbZ y_3.2.1 /\ True) -> attrQ (q168 z y_2).2 y_3.1 y_3.2.1 = true -> q65 <= q61 /\ ((!y_3.2.1) = false -> True) /\
  ((!y_3.2.1) = false -> ((!y_3.2.1) == false) = true /\ True) /\ ((!y_3.2.1) = false -> ((!y_3.2.1) == false) = true /\ True) /\ ((!y_3.2.1) = false -> ((!y_3.2.1) == false) = true) /\ ((bif
  !y_3.2.1 then true else decide ((q168 z y_2).1 ≠ (49 : Int))) = true -> decQ x.1 [] (120 : Int) = true) /\ ((bif !y_3.2.1 then true else decide ((q168 z y_2).1 ≠ (49 : Int))) = false -> q63
  < q65 /\ (List.length z.2.2.1 + List.length [(y_3.1.1, y_3.1.2)]) * (24 : Nat) <= q94 /\ List.length z.2.2.1 + List.length [(y_3.1.1, y_3.1.2)] <= q93 /\ (lnZ y_1.1) = (lnZ y_1.1) /\
  Value.bool false = Value.bool false /\ y_1.2.2.1 = y_1.2.2.1 /\ Value.bool false = Value.bool false /\ y.2.1 = y.2.1 /\ x.1 = x.1 /\ I (wrZ (y_2.1 + q334), y_2.2.1, ()) ((z.1.1, z.1.2.1,
  ()), z.2.1, z.2.2.1 ++ [(y_3.1.1, y_3.1.2)], z.2.2.2.1, ()) /\ μ (wrZ (y_2.1 + q334), y_2.2.1, ()) ((z.1.1, z.1.2.1, ()), z.2.1, z.2.2.1 ++ [(y_3.1.1, y_3.1.2)], z.2.2.2.1, ()) < μ y_2 z))
  /\ True) /\ (decide (y_2.1 < (lnZ y_1.1)) = false -> decQ x.1 z.2.2.1 q34 = true))) /\ True)) /\ True
theorem e174 : t174 = Con.vc c_name_Decode GL (mkEnv ty [(102, conSem c_der_One), (72, conSem c_der_All), (187, conSem c_name_attr)] [] [] [0, 2, 3, 4, 5, 6, 8, 9, 11, 12, 13, 20, 40, 41, 42, 43, 44, 59]) {} Tryz.f174.ntmps Tryz.f174.results.toList (bodyOf Tryz.f174) := by kernel_rfl
theorem k174 : t174 := by
  unfold t174
  delta q5 q96 q149 q95 q17 q147 q65 q61 q34 q18 q157 q357 q356 q166 q167 q163 q127 lnZ q6 q101 wiZ wyZ q125 q169 q168 q89 wbZ q63 q94 q93 wrZ q334 q365 q387 q421 q388 q353 q425 q451 q452
  rintro ⟨b, _⟩ hx hp
  have hp : b.length ≤ 100000000 := hp
  have hb : Bys b := sl_bys hx.1
  try dsimp +instances only [dft_int, dft_sl, dft_str]
  simp only [true_and, and_true, eq_self_iff_true, implies_true, reduceCtorEq, false_implies, true_implies, decide_eq_true_eq, decide_eq_false_iff_not, beq_self_eq_true, Bool.not_eq_true', ne_eq, Decidable.not_not, List.nil_append, List.length_singleton, List.length_cons, List.length_nil, Nat.zero_add, Nat.add_zero, Nat.mul_one, and_self, beq_iff_eq, Bool.not_true, Bool.not_false, Bool.not_eq_false', Bool.cond_false_right, Bool.and_eq_true, imp_self, Bool.not_eq_true, Bool.cond_true_left, Bool.or_eq_true]
  simp only [edft_eq]
  have hol := oneD_len b
  refine ⟨by rw [lenB]; omega, ?_⟩
  rintro ⟨⟨t, c⟩, e, _⟩ _ e1
  simp only at e1 ⊢
  have o1 : (oneD b).1.1 = t := by rw [← e1]
  have o2 : (oneD b).1.2 = c := by rw [← e1]
  have o3 : (oneD b).2 = e := by rw [← e1]
  rw [o2] at hol
  refine ⟨by decide, fun h => decQ_iff.2 (.inl ⟨by rw [o3]; exact h, o3.symm, rfl⟩), fun h => ⟨by rw [lenB]; omega, ?_⟩⟩
  subst h
  rintro ⟨l, n, e2, _⟩ _ el
  simp only at el ⊢
  have hread : ∀ m, mayN m = true → encN m = b → t = 48 ∧ l = m.map (fun a => ((49 : Int), attrB a)) ∧ e2 = 0 := fun m hm he => by
    obtain ⟨r1, r2⟩ := dec_read hm he
    rw [o2, ← el] at r2
    simp only [Prod.mk.injEq] at r2
    exact ⟨by rw [← o1, r1], r2.1, r2.2.2⟩
  refine ⟨fun h => decQ_bad o3 fun m hm he => ?_, fun h => ?_⟩
  . obtain ⟨r1, r2, r3⟩ := hread m hm he
    have := (mayN_args hm).1
    have hl := congrArg List.length r2
    rw [List.length_map] at hl
    rcases h with (h | h) | h
    . exact h r3
    . exact h r1
    . omega
  simp only [Bool.or_eq_false_iff, decide_eq_false_iff_not, Decidable.not_not] at h
  obtain ⟨⟨k1, k2⟩, k3⟩ := h
  subst k1 k2
  have hel : ∀ x ∈ l, x.2.length ≤ 100000000 := fun x hx => by
    have := (allD_len c).2 x (by rw [← el]; exact hx)
    omega
  refine ⟨fun y z => z.2.1 = l ∧ 0 ≤ y.1 ∧ y.1 ≤ l.length ∧ (∀ a ∈ (z.2.2.1 : List AttrT), mayA a = true) ∧ l.take y.1.toNat = (z.2.2.1 : List AttrT).map (fun a => ((49 : Int), attrB a)), fun y _ => ((l.length : Int) - y.1).toNat, ⟨rfl, Int.le_refl 0, by simp only; omega, (fun a ha => by cases ha), rfl⟩, ?_⟩
  rintro ⟨i, q, _⟩ ⟨⟨t2, c2, _⟩, l2, acc, v, _⟩ _ _ ⟨z1, i0, i1, hA, hz⟩
  simp only at z1 i0 i1 hA hz ⊢
  subst z1
  have hal := congrArg List.length hz
  rw [List.length_take, List.length_map] at hal
  refine ⟨fun hlt => ?_, fun hge => ?_⟩
  . have hst := take_snocA edft l2 i.toNat (by omega)
    have hmem := mem_getD edft l2 i.toNat (by omega)
    have hgi : ∀ m, mayN m = true → encN m = b → ∃ a, mayA a = true ∧ l2.getD i.toNat edft = (49, attrB a) := fun m hm he => by
      obtain ⟨_, r2, _⟩ := hread m hm he
      rw [r2] at hmem
      obtain ⟨a, ha, e⟩ := List.mem_map.1 hmem
      exact ⟨a, (mayN_args hm).2 a ha, by rw [r2]; exact e.symm⟩
    refine ⟨⟨i0, hlt⟩, by decide, by rw [lenB]; exact hel _ hmem, ?_⟩
    rintro ⟨⟨k, v2⟩, ok, _⟩ _ hq
    simp only at hq ⊢
    have hq2 := attrQ_iff.1 hq
    refine ⟨by decide, fun h => decQ_bad o3 fun m hm he => ?_, fun h => ?_⟩
    . obtain ⟨a, ha, ex⟩ := hgi m hm he
      rcases h with h | h
      . exact hq2.2 h a ha (by rw [ex])
      . exact h (by rw [ex])
    . rw [Bool.or_eq_false_iff, Bool.not_eq_false'] at h
      obtain ⟨g1, g2⟩ := hq2.1 h.1
      have h2 := dec_not h.2
      rw [wrapK (i + 1) (by omega) (by omega)]
      refine ⟨by decide, by omega, by omega, ⟨by trivial, by omega, by omega, fun a ha => ?_, ?_⟩, by omega⟩
      . rcases List.mem_append.1 ha with ha | ha
        . exact hA a ha
        . rw [List.mem_singleton.1 ha]; exact g1
      . rw [show (i + 1).toNat = i.toNat + 1 by omega, hst, hz, List.map_append, List.map_singleton, g2, ← h2]
  . rw [List.take_of_length_le (by omega)] at hz
    refine decQ_iff.2 (.inr ⟨o3, .inl ⟨rfl, mayN_of (by omega) hA, enc_sets hb o3 o1 (n := n) ?_⟩⟩)
    rw [o2, ← el, hz]
theorem h174 : c_name_Decode.ok Tryz.prog GL 174 := con_ok (H := {}) (mkEnv_ok (gl := GL) (l := [(102, conSem c_der_One), (72, conSem c_der_All), (187, conSem c_name_attr)]) (q := []) (d := []) _ tyOk (by kernel_rfl) ⟨h102.call, h72.call, h187.call, trivial⟩ trivial trivial) (by kernel_rfl) (by kernel_rfl) (Eq.mp e174 k174)
end Go.Proofs.YtiofbnlbfmbodaaGreatDoor
end
