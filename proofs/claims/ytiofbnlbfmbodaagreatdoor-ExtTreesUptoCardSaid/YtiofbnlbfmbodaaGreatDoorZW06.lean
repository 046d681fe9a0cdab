/- Texts of a verified walk, led together: Name3A, Name3W, Name4A, Name4W. -/
import Derived.Test.YtiofbnlbfmbodaaGreatDoorZW05
import Derived.Test.YtiofbnlbfmbodaaGreatDoorZV12
set_option linter.unusedVariables false
set_option linter.unusedSimpArgs false
section
namespace Go.Proofs.YtiofbnlbfmbodaaGreatDoor
open Go Go.Vc Go.Pl Go.Proofs
def c_slices_Equal_int_int : Con := { args := [.dat (.sl I64), .dat (.sl I64)], res := [.dat .bool], pre := fun _ => True, post := fun x y => y.1 = decide (x.1 = x.2.1) }
def c_oid_Begins : Con := { args := [.dat (.sl I64), .dat (.sl I64)], res := [.dat .bool], pre := fun _ => True, post := fun x y => y.1 = decide (x.1.take x.2.1.length = x.2.1) }
def c_name_only : Con := { args := [.dat BY, .dat I64], res := [.dat BY, .dat .bool], pre := fun x => lenB x.1 ≤ 100000000, post := fun x y => y.1 = (oneD x.1).1.2 ∧ y.2.1 = (decide ((oneD x.1).2 = 0) && decide ((oneD x.1).1.1 = x.2.1)) }
def c_r12_put : Con := { args := [.dat I64, .dat BY], res := [.own 5 U8], pre := fun x => 0 ≤ x.1 ∧ x.1 ≤ 255 ∧ lenB x.2.1 ≤ 16777215, post := fun x y => y.1 = putB (x.1, x.2.1) }
def c_r12_Encode : Con := { args := [.dat (.sl AT)], res := [.own 5 U8, .dat I64], pre := fun x => x.1.length ≤ 1000000000 ∧ ∀ a ∈ x.1, a.2.length ≤ 100000000, post := fun x y => (y.1, y.2.1) = EncN x.1 }
def c_r12_inside : Con := { args := [.dat BY, .dat I64], res := [.own 105 ET, .dat .bool], pre := fun x => lenB x.1 ≤ 100000000, post := fun x y => (y.1, y.2.1) = insD x.1 x.2.1 }
def c_r12_guess : Con := { args := [.dat BY], res := [.own 218 AT], pre := fun x => lenB x.1 ≤ 100000000, post := fun x y => y.1 = guessD x.1 }
def c_r12_Decode : Con := { args := [.dat BY], res := [.own 218 AT, .dat I64], pre := fun x => lenB x.1 ≤ 100000000, post := fun x y => decQ x.1 y.1 y.2.1 = true }
end Go.Proofs.YtiofbnlbfmbodaaGreatDoor
end
section
namespace Go.Proofs.YtiofbnlbfmbodaaGreatDoor
open Go Go.Vc Go.Pl Go.Proofs
set_option linter.unusedVariables false
set_option linter.unusedSimpArgs false
set_option maxRecDepth 20000
theorem adft_eq4 : Kd.dft (Kd.pair (Kd.int IntKind.i64) Kd.str) = adft := rfl
theorem edft_eq : Kd.dft (Kd.pair (Kd.int IntKind.i64) (Kd.sl (Kd.int IntKind.u8))) = edft := rfl
abbrev q22 := ((Int × List Int) × Int × Unit)
abbrev q23 := (List (Int × List Int) × Int × Int × Unit)
abbrev q24 := (Int × Unit -> List (Int × List Int) × List (Int × List Int) × Unit -> Prop)
abbrev q25 := (Int × Unit -> List (Int × List Int) × List (Int × List Int) × Unit -> Nat)
abbrev q26 := (List (Int × List Int) × List (Int × List Int) × Unit)
abbrev q223 (p0 : q2) (p1 : q9) := (List.getD p0.1 (q384 p1) q452 ≠ List.getD p0.2.1 (q384 p1) q452)
abbrev q406 (p0 : q22) := (p0.2.1 = q482)
abbrev q405 (p0 : q22) := (decide (p0.2.1 = q482) == true)
abbrev q224 (p0 : q22) := (decide (q406 p0) = true -> (q405 p0) = true /\ (q405 p0) = true /\ True)
abbrev q225 (p0 : q22) := (Kd.wf q403 p0.1 /\ wiZ p0.2.1 /\ True)
abbrev q226 (p0 : q22) (p1 : q0) := (bif decide (q406 p0) then decide (p0.1.1 = p1.2.1) else false)
abbrev q420 := (16777215 : Nat)
abbrev q227 (p0 : q6) (p1 : q14) (p2 : q1) := (q379 <= p0.1 /\ p0.1 <= q395 /\ lenB (List.getD p1.1 (q377 p2) q393).2 <= q420)
abbrev q228 (p0 : q5) (p1 : q5) := (q379 <= q383 /\ q383 <= q395 /\ lenB (p0.1 ++ p1.1) <= q420)
abbrev q229 (p0 : q5) := (q379 <= (49 : Int) /\ (49 : Int) <= q395 /\ lenB p0.1 <= q420)
abbrev q230 (p0 : q0) := (q379 <= (6 : Int) /\ (6 : Int) <= q395 /\ lenB p0.1 <= q420)
abbrev q231 (p0 : q5) := (q379 <= q383 /\ q383 <= q395 /\ lenB p0.1 <= q420)
abbrev q232 (p0 : q14) (p1 : q1) := (List.getD p0.1 (q377 p1) q393)
abbrev q233 := (48 : Int)
abbrev q234 (p0 : q23) := (Kd.wf q450 p0.1 /\ wiZ p0.2.1 /\ wiZ p0.2.2.1 /\ True)
abbrev q235 (p0 : q23) := (p0.2.2.1 = q379)
abbrev q236 (p0 : q22) := (p0.2.1 ≠ q379)
abbrev q495 := (Kd.dft q512)
abbrev q454 (p0 : List (Int × List Int) × Bool × Unit) := (List.getD p0.1 q493 q495)
abbrev q412 := (Kd.dft q512)
abbrev q237 (p0 : q26) (p1 : List (Int × List Int) × Bool × Unit) := (List.length p0.1 + List.length [(wrZ (List.getD (q454 p1).2 (2 : Nat) q429), (List.getD p1.1 q387 q412).2)])
abbrev q238 (p0 : List (Int × List Int) × Bool × Unit) := (bif bif !p0.2.1 then true else decide ((lnZ p0.1) ≠ q428) then true else decide ((lnZ (q454 p0).2) ≠ (3 : Int)))
abbrev q239 (p0 : List (Int × List Int) × Bool × Unit) := ((bif !p0.2.1 then true else decide ((lnZ p0.1) ≠ q428)) = false -> ((bif !p0.2.1 then true else decide ((lnZ p0.1) ≠ q428)) ==
  false) = true /\ True)
abbrev q240 (p0 : List (Int × List Int) × Bool × Unit) := (List.getD (q454 p0).2 (2 : Nat) q429)
abbrev q241 (p0 : List (Int × List Int) × Bool × Unit) := (q379 <= q428 /\ q428 < (lnZ (q454 p0).2))
abbrev q242 (p0 : List (Int × List Int) × Bool × Unit) := (List.getD p0.1 q387 q412)
abbrev q243 := (Kd.dft q403)
abbrev q244 := (Kd.sl q415)
abbrev q245 := (24 : Nat)
abbrev q246 (p0 : q0) := (decide (p0.2.1 ≠ q379) = false -> (decide (p0.2.1 ≠ q379) == false) = true /\ (decide (p0.2.1 ≠ q379) == false) = true /\ True)
abbrev q247 (p0 : q0) := (decide (p0.2.1 ≠ q379) = false -> (decide (p0.2.1 ≠ q379) == false) = true /\ True)
abbrev q248 (p0 : q0) := (decide (p0.2.1 ≠ q379) = false -> (decide (p0.2.1 ≠ q379) == false) = true)
abbrev q249 (p0 : q0) (p1 : q5) := (bif decide (p0.2.1 ≠ q379) then true else decide (p0.1 ≠ p1.1))
abbrev q250 (p0 : q0) := (decide (p0.2.1 ≠ q379) = false -> True)
abbrev q407 (p0 : List q194 × Bool × Unit) := (bif !p0.2.1 then true else decide ((lnZ p0.1) ≠ (2 : Int)))
def t155 : Prop :=
  ∀ (x : q2), (Kd.wf q206 x.1 /\ Kd.wf q206 x.2.1 /\ True) -> True -> (decide ((lnZ x.1) ≠ (lnZ x.2.1)) = true -> false = decide (x.1 = x.2.1)) /\ (decide ((lnZ x.1) ≠ (lnZ x.2.1)) = false ->
  ∃ (I : q7), ∃ (μ : q8), ((lnZ x.1) = (lnZ x.1) /\ Value.bool false = Value.bool false /\ x.1 = x.1 /\ x.2.1 = x.2.1 /\ I (q40, false, ()) ()) /\ ∀ (y : q9) (z : Unit), (q83 y) -> True -> I
  y z -> (decide (y.1 < (lnZ x.1)) = true -> (q40 <= y.1 /\ y.1 < (lnZ x.1)) /\ (q40 <= y.1 /\ y.1 < (lnZ x.2.1)) /\ (decide (q223 x y) = true -> false = decide (x.1 = x.2.1)) /\ (decide
  (q223 x y) = false -> (lnZ x.1) = (lnZ x.1) /\ Value.bool false = Value.bool false /\ x.1 = x.1 /\ x.2.1 = x.2.1 /\ I (wrZ (q85 y), y.2.1, ()) () /\ μ (wrZ (q85 y), y.2.1, ()) () < μ y z))
  /\ (decide (y.1 < (lnZ x.1)) = false -> true = decide (x.1 = x.2.1)))
theorem e155 : t155 = Con.vc c_slices_Equal_int_int GL (mkEnv ty [] [] [] [0, 1, 4, 5, 10, 12, 13, 14, 24]) {} Tryz.f155.ntmps Tryz.f155.results.toList (bodyOf Tryz.f155) := by kernel_rfl
theorem k155 : t155 := by
  unfold t155
  delta q2 q206 lnZ q7 q8 q40 q9 q83 q223 wrZ q85 q494 wiZ wbZ q384 q452 q417
  rintro ⟨a, b, _⟩ hx hp
  have hl : a.length ≤ 9223372036854775807 := hx.1.1
  try dsimp +instances only [dft_int, dft_sl, dft_str]
  simp only [true_and, and_true, eq_self_iff_true, implies_true, reduceCtorEq, false_implies, true_implies, decide_eq_true_eq, decide_eq_false_iff_not, beq_self_eq_true, Bool.not_eq_true', ne_eq, Decidable.not_not, List.nil_append, List.length_singleton, List.length_cons, List.length_nil, Nat.zero_add, Nat.add_zero, Nat.mul_one, and_self, beq_iff_eq, Bool.not_true, Bool.not_false, Bool.not_eq_false', Bool.cond_false_right, Bool.and_eq_true, imp_self, Bool.not_eq_true, Bool.cond_true_left, Bool.or_eq_true]
  refine ⟨fun h => (decide_eq_false (fun e => h (by rw [e]))).symm, fun h => ?_⟩
  refine ⟨fun y _ => 0 ≤ y.1 ∧ y.1 ≤ a.length ∧ a.take y.1.toNat = b.take y.1.toNat, fun y _ => ((a.length : Int) - y.1).toNat, ⟨Int.le_refl 0, by simp only; omega, rfl⟩, ?_⟩
  rintro ⟨i, q, _⟩ _ _ ⟨i0, i1, e⟩
  simp only at i0 i1 e ⊢
  refine ⟨fun hlt => ⟨⟨i0, hlt⟩, ⟨i0, by omega⟩, fun hne => ?_, fun he => ?_⟩, fun hge => ?_⟩
  . refine (decide_eq_false fun e2 => hne ?_).symm
    rw [e2]
  . rw [wrapM (i + 1) (by omega) (by omega)]
    refine ⟨⟨by omega, by omega, ?_⟩, by omega⟩
    rw [show (i + 1).toNat = i.toNat + 1 by omega, take_snoc a _ (by omega), take_snoc b _ (by omega), e, he]
  . rw [List.take_of_length_le (by omega), List.take_of_length_le (by omega)] at e
    exact (decide_eq_true e).symm
theorem h155 : c_slices_Equal_int_int.ok Tryz.prog GL 155 := con_ok (H := {}) (mkEnv_ok (gl := GL) (l := []) (q := []) (d := []) _ tyOk (by kernel_rfl) trivial trivial trivial) (by kernel_rfl) (by kernel_rfl) (Eq.mp e155 k155)
def t114 : Prop :=
  ∀ (x : q2), (Kd.wf q206 x.1 /\ Kd.wf q206 x.2.1 /\ True) -> True -> (q45 x) /\ (q45 x) /\ (q44 x) /\ (q43 x) /\ (q45 x) /\ (decide (q378 x) = true -> (q46 x) = true /\ (q46 x) = true /\
  True /\ (∀ (y : q4), (q47 y) -> y.1 = decide (List.take (Int.toNat (lnZ x.2.1)) x.1 = x.2.1) -> y.1 = decide (List.take (List.length x.2.1) x.1 = x.2.1)) /\ True) /\ (decide (q378 x) =
  !true -> false = decide (List.take (List.length x.2.1) x.1 = x.2.1))
theorem e114 : t114 = Con.vc c_oid_Begins GL (mkEnv ty [(155, conSem c_slices_Equal_int_int)] [] [] [0, 1, 4]) {} Tryz.f114.ntmps Tryz.f114.results.toList (bodyOf Tryz.f114) := by kernel_rfl
theorem k114 : t114 := by
  unfold t114
  delta q2 q206 q45 q44 q43 q378 q46 q4 q47 lnZ q494 q379 wbZ
  rintro ⟨a, b, _⟩ hx hp
  try dsimp +instances only [dft_int, dft_sl, dft_str]
  simp only [true_and, and_true, eq_self_iff_true, implies_true, reduceCtorEq, false_implies, true_implies, decide_eq_true_eq, decide_eq_false_iff_not, beq_self_eq_true, Bool.not_eq_true', ne_eq, Decidable.not_not, List.nil_append, List.length_singleton, List.length_cons, List.length_nil, Nat.zero_add, Nat.add_zero, Nat.mul_one, and_self, beq_iff_eq, Bool.not_true, Bool.not_false, Bool.not_eq_false', Bool.cond_false_right, Bool.and_eq_true, imp_self, Bool.not_eq_true, Bool.cond_true_left, Bool.or_eq_true]
  refine ⟨fun h => ⟨h, h, by omega, h⟩, fun h => ⟨h, h, fun y _ e => ?_⟩, fun h => ?_⟩
  . rw [e, Int.toNat_natCast]
  . refine (decide_eq_false fun e => h ?_).symm
    have := congrArg List.length e
    rw [List.length_take] at this
    omega
theorem h114 : c_oid_Begins.ok Tryz.prog GL 114 := con_ok (H := {}) (mkEnv_ok (gl := GL) (l := [(155, conSem c_slices_Equal_int_int)]) (q := []) (d := []) _ tyOk (by kernel_rfl) ⟨h155.call, trivial⟩ trivial trivial) (by kernel_rfl) (by kernel_rfl) (Eq.mp e114 k114)
def t193 : Prop :=
  ∀ (x : q0), (q222 x) -> lenB x.1 <= q155 -> lenB x.1 <= q84 /\ (∀ (y : q22), (q225 y) -> (y.1, y.2.1) = oneD x.1 -> q74 <= q69 /\ (decide (q406 y) = true -> True) /\ (decide (q406 y) = true
  -> (q405 y) = true /\ True) /\ (decide (q406 y) = true -> True) /\ (q224 y) /\ (decide (q406 y) = true -> (q405 y) = true) /\ y.1.2 = (oneD x.1).1.2 /\ (q226 y x) = (decide ((oneD x.1).2 =
  q40) && decide ((oneD x.1).1.1 = x.2.1))) /\ True
theorem e193 : t193 = Con.vc c_name_only GL (mkEnv ty [(102, conSem c_der_One)] [] [] [0, 1, 4, 5, 6, 7]) {} Tryz.f193.ntmps Tryz.f193.results.toList (bodyOf Tryz.f193) := by kernel_rfl
theorem k193 : t193 := by
  unfold t193
  delta q0 q222 q155 q84 q22 q225 q74 q69 q406 q405 q224 q226 q40 wyZ wiZ q403 q482 q494
  rintro ⟨b, t, _⟩ hx hp
  have hp : b.length ≤ 100000000 := hp
  try dsimp +instances only [dft_int, dft_sl, dft_str]
  simp only [true_and, and_true, eq_self_iff_true, implies_true, reduceCtorEq, false_implies, true_implies, decide_eq_true_eq, decide_eq_false_iff_not, beq_self_eq_true, Bool.not_eq_true', ne_eq, Decidable.not_not, List.nil_append, List.length_singleton, List.length_cons, List.length_nil, Nat.zero_add, Nat.add_zero, Nat.mul_one, and_self, beq_iff_eq, Bool.not_true, Bool.not_false, Bool.not_eq_false', Bool.cond_false_right, Bool.and_eq_true, imp_self, Bool.not_eq_true, Bool.cond_true_left, Bool.or_eq_true]
  refine ⟨by rw [lenB]; omega, ?_⟩
  rintro ⟨x, e, _⟩ _ h
  simp only at h ⊢
  rw [← h]
  exact ⟨by decide, rfl, rfl⟩
theorem h193 : c_name_only.ok Tryz.prog GL 193 := con_ok (H := {}) (mkEnv_ok (gl := GL) (l := [(102, conSem c_der_One)]) (q := []) (d := []) _ tyOk (by kernel_rfl) ⟨h102.call, trivial⟩ trivial trivial) (by kernel_rfl) (by kernel_rfl) (Eq.mp e193 k193)
def t171 : Prop :=
  ∀ (x : q12), (wiZ x.1 /\ wyZ x.2.1 /\ True) -> q40 <= x.1 /\ x.1 <= q395 /\ lenB x.2.1 <= q197 -> (lenB x.2.1 <= q197 /\ q40 <= x.1 /\ x.1 <= q395) /\ (∀ (y : q5), (q160 y) -> y.1 = putB
  (x.1, x.2.1) -> y.1 = putB (x.1, x.2.1)) /\ True
theorem e171 : t171 = Con.vc c_r12_put GL (mkEnv ty [(100, conSem c_r01_Bytes)] [] [] [0, 1, 4]) {} Tryz.f171.ntmps Tryz.f171.results.toList (bodyOf Tryz.f171) := by kernel_rfl
theorem k171 : t171 := by
  unfold t171
  delta q12 wiZ wyZ q40 q395 q197 q5 q160
  rintro ⟨t, c, _⟩ hx hp
  obtain ⟨h1, h2, h3⟩ := hp
  simp only at h1 h2 h3
  try dsimp +instances only [dft_int, dft_sl, dft_str]
  simp only [true_and, and_true, eq_self_iff_true, implies_true, reduceCtorEq, false_implies, true_implies, decide_eq_true_eq, decide_eq_false_iff_not, beq_self_eq_true, Bool.not_eq_true', ne_eq, Decidable.not_not, List.nil_append, List.length_singleton, List.length_cons, List.length_nil, Nat.zero_add, Nat.add_zero, Nat.mul_one, and_self, beq_iff_eq, Bool.not_true, Bool.not_false, Bool.not_eq_false', Bool.cond_false_right, Bool.and_eq_true, imp_self, Bool.not_eq_true, Bool.cond_true_left, Bool.or_eq_true]
  exact ⟨h3, h1, h2⟩
theorem h171 : c_r12_put.ok Tryz.prog GL 171 := con_ok (H := {}) (mkEnv_ok (gl := GL) (l := [(100, conSem c_r01_Bytes)]) (q := []) (d := []) _ tyOk (by kernel_rfl) ⟨h100.call, trivial⟩ trivial trivial) (by kernel_rfl) (by kernel_rfl) (Eq.mp e171 k171)
def t143 : Prop :=
  ∀ (x : q14), (q156 x) -> (List.length x.1 <= q84 /\ ∀ (a : Int × List Int), a ∈ x.1 -> List.length a.2 <= q155) -> (List.length x.1 <= q84 /\ ∀ (a : Int × List Int), a ∈ x.1 -> List.length
  a.2 <= q155) /\ (∀ (y : q4), (q47 y) -> y.1 = mayN x.1 -> ((!y.1) = true -> ([], (120 : Int)) = EncN x.1) /\ ((!y.1) = false -> ∃ (I : q16), ∃ (μ : q17), (Value.bool false = Value.bool
  false /\ q40 = q40 /\ Value.slice none q71 q71 = Value.slice none q71 q71 /\ x.1 = x.1 /\ I (q40, ()) ([], ())) /\ ∀ (y : q1) (z : q5), (q36 y) -> (q160 z) -> I y z -> (decide (y.1 < (lnZ
  x.1)) = true -> (q40 <= y.1 /\ y.1 < (lnZ x.1)) /\ True /\ (∀ (y_1 : q0), (q222 y_1) -> (y_1.1, y_1.2.1) = EncO [q75, (5 : Int), q73, (q232 x y).1] -> (q40 <= y.1 /\ y.1 < (lnZ x.1)) /\
  List.length (q232 x y).2 <= q84 /\ (∀ (y_2 : q6), (q94 y_2) -> y_2.1 = (kindD (q232 x y).2).1 /\ y_2.2.1 = (kindD (q232 x y).2).2 -> (q40 <= y.1 /\ y.1 < (lnZ x.1)) /\ ((q230 y_1) /\ (∀
  (y_3 : q5), (q160 y_3) -> y_3.1 = putB ((6 : Int), y_1.1) -> ((((q227 y_2 x y) /\ (∀ (y_4 : q5), (q160 y_4) -> y_4.1 = putB (y_2.1, (q232 x y).2) -> (q71 < q42 /\ (q216 y_3 y_4) * q42 <=
  q159 /\ List.length y_3.1 + List.length y_4.1 <= q158 /\ (q228 y_3 y_4) /\ (∀ (y_5 : q5), (q160 y_5) -> y_5.1 = putB (q233, y_3.1 ++ y_4.1) -> (q229 y_5) /\ (∀ (y_6 : q5), (q160 y_6) ->
  y_6.1 = putB ((49 : Int), y_5.1) -> q71 < q42 /\ (q216 z y_6) * q42 <= q159 /\ List.length z.1 + List.length y_6.1 <= q158 /\ Value.bool false = Value.bool false /\ q40 = q40 /\ Value.slice
  none q71 q71 = Value.slice none q71 q71 /\ x.1 = x.1 /\ I (wrZ (q217 y), ()) (z.1 ++ y_6.1, ()) /\ μ (wrZ (q217 y), ()) (z.1 ++ y_6.1, ()) < μ y z) /\ True) /\ True) /\ True) /\ True) /\
  True) /\ True) /\ True) /\ True) /\ (((q230 y_1) /\ (∀ (y_3 : q5), (q160 y_3) -> y_3.1 = putB ((6 : Int), y_1.1) -> (((q227 y_2 x y) /\ (∀ (y_4 : q5), (q160 y_4) -> y_4.1 = putB (y_2.1,
  (q232 x y).2) -> (q71 < q42 /\ (q216 y_3 y_4) * q42 <= q159 /\ List.length y_3.1 + List.length y_4.1 <= q158 /\ (q228 y_3 y_4) /\ (∀ (y_5 : q5), (q160 y_5) -> y_5.1 = putB (q233, y_3.1 ++
  y_4.1) -> (q229 y_5) /\ (∀ (y_6 : q5), (q160 y_6) -> y_6.1 = putB ((49 : Int), y_5.1) -> q71 < q42 /\ (q216 z y_6) * q42 <= q159 /\ List.length z.1 + List.length y_6.1 <= q158 /\ Value.bool
  false = Value.bool false /\ q40 = q40 /\ Value.slice none q71 q71 = Value.slice none q71 q71 /\ x.1 = x.1 /\ I (wrZ (q217 y), ()) (z.1 ++ y_6.1, ()) /\ μ (wrZ (q217 y), ()) (z.1 ++ y_6.1,
  ()) < μ y z) /\ True) /\ True) /\ True) /\ True) /\ True) /\ True) /\ True) /\ (((q230 y_1) /\ (∀ (y_3 : q5), (q160 y_3) -> y_3.1 = putB ((6 : Int), y_1.1) -> ((q227 y_2 x y) /\ (∀ (y_4 :
  q5), (q160 y_4) -> y_4.1 = putB (y_2.1, (q232 x y).2) -> (q71 < q42 /\ (q216 y_3 y_4) * q42 <= q159 /\ List.length y_3.1 + List.length y_4.1 <= q158 /\ (q228 y_3 y_4) /\ (∀ (y_5 : q5),
  (q160 y_5) -> y_5.1 = putB (q233, y_3.1 ++ y_4.1) -> (q229 y_5) /\ (∀ (y_6 : q5), (q160 y_6) -> y_6.1 = putB ((49 : Int), y_5.1) -> q71 < q42 /\ (q216 z y_6) * q42 <= q159 /\ List.length
  z.1 + List.length y_6.1 <= q158 /\ Value.bool false = Value.bool false /\ q40 = q40 /\ Value.slice none q71 q71 = Value.slice none q71 q71 /\ x.1 = x.1 /\ I (wrZ (q217 y), ()) (z.1 ++
  y_6.1, ()) /\ μ (wrZ (q217 y), ()) (z.1 ++ y_6.1, ()) < μ y z) /\ True) /\ True) /\ True) /\ True) /\ True) /\ True) /\ True) /\ True) /\ True) /\ True) /\ True) /\ (decide (y.1 < (lnZ
  x.1)) = false -> (q231 z) /\ (∀ (y : q5), (q160 y) -> y.1 = putB (q233, z.1) -> (y.1, q40) = EncN x.1) /\ True))) /\ True
theorem e143 : t143 = Con.vc c_r12_Encode GL (mkEnv ty [(169, conSem c_r12_May), (110, conSem c_r03_Encode), (170, conSem c_r05_Kind), (171, conSem c_r12_put)] [] [] [0, 2, 3, 4, 5, 6, 8, 10, 13, 17]) {} Tryz.f143.ntmps Tryz.f143.results.toList (bodyOf Tryz.f143) := by kernel_rfl
theorem k143 : t143 := by
  unfold t143
  delta q14 q156 q84 q155 q4 q47 q16 q17 q40 q71 q1 q5 q36 q160 lnZ q0 q222 q75 q73 q232 q6 q94 q230 q227 q42 q216 q159 q158 q228 q233 q229 wrZ q217 q231 q440 wbZ wiZ wyZ q377 q393 q379 q395 q420 q383 q417 q500
  rintro ⟨n, _⟩ hx hp
  have hp2 := hp
  obtain ⟨h1, h2⟩ := hp2
  simp only at h1 h2
  try dsimp +instances only [dft_int, dft_sl, dft_str]
  simp only [true_and, and_true, eq_self_iff_true, implies_true, reduceCtorEq, false_implies, true_implies, decide_eq_true_eq, decide_eq_false_iff_not, beq_self_eq_true, Bool.not_eq_true', ne_eq, Decidable.not_not, List.nil_append, List.length_singleton, List.length_cons, List.length_nil, Nat.zero_add, Nat.add_zero, Nat.mul_one, and_self, beq_iff_eq, Bool.not_true, Bool.not_false, Bool.not_eq_false', Bool.cond_false_right, Bool.and_eq_true, imp_self, Bool.not_eq_true, Bool.cond_true_left, Bool.or_eq_true]
  simp only [adft_eq4]
  refine ⟨⟨h1, h2⟩, ?_⟩
  rintro ⟨m, _⟩ _ em
  simp only at em ⊢
  subst em
  refine ⟨fun h => by rw [EncN, if_neg (by rw [h]; decide)], fun h => ?_⟩
  obtain ⟨h16, hA⟩ := mayN_args h
  have hfl : ∀ i, ((n.take i).flatMap attrE).length ≤ 1200 := fun i => by
    have := flat_len (n.take i) fun a ha => hA a (List.mem_of_mem_take ha)
    have : (n.take i).length ≤ n.length := by rw [List.length_take]; omega
    omega
  refine ⟨fun y z => 0 ≤ y.1 ∧ y.1 ≤ n.length ∧ z.1 = (n.take y.1.toNat).flatMap attrE, fun y _ => ((n.length : Int) - y.1).toNat, ⟨Int.le_refl 0, by simp only; omega, rfl⟩, ?_⟩
  rintro ⟨i, _⟩ ⟨z, _⟩ _ _ ⟨i0, i1, ez⟩
  simp only at i0 i1 ez ⊢
  have hzl := hfl i.toNat
  rw [← ez] at hzl
  refine ⟨fun hlt => ⟨⟨i0, hlt⟩, ?_⟩, fun hge => ?_⟩
  . have hm := hA _ (mem_getD adft n i.toNat (by omega))
    have hst : (n.take (i.toNat + 1)).flatMap attrE = z ++ attrE (n.getD i.toNat adft) := by rw [take_snocA adft n _ (by omega), List.flatMap_append, ← ez]; simp
    generalize n.getD i.toNat adft = a at hm hst
    have hv := mayA_len hm
    have hk := (may_kind hm).2
    have hB := attrB_len hm
    have hE := attrE_len hm
    have p1 : (putB (6, [85, 4, a.1])).length = 5 := put_small (x := (6, [85, 4, a.1])) (by simp)
    have p2 : (putB (elK a)).length = 2 + a.2.length := put_small (x := elK a) (by show a.2.length < 128; omega)
    rintro ⟨o, f, _⟩ _ eo
    simp only at eo ⊢
    rw [enc_oid hm] at eo
    obtain ⟨rfl, rfl⟩ := Prod.mk.inj eo
    refine ⟨⟨i0, hlt⟩, by omega, ?_⟩
    rintro ⟨k, e, _⟩ _ ⟨ek, ee⟩
    simp only at ek ee ⊢
    refine ⟨⟨i0, hlt⟩, ⟨by decide, by decide, by simp [lenB]⟩, ?_⟩
    rintro ⟨w1, _⟩ _ e1
    simp only at e1 ⊢
    subst e1
    refine ⟨⟨by omega, by omega, by rw [lenB]; omega⟩, ?_⟩
    rintro ⟨w2, _⟩ _ e2
    simp only at e2 ⊢
    rw [ek] at e2
    have e2 : w2 = putB (elK a) := e2
    subst e2
    refine ⟨by decide, by omega, by omega, ⟨by decide, by decide, by rw [lenB, List.length_append]; omega⟩, ?_⟩
    rintro ⟨w3, _⟩ _ e3
    simp only at e3 ⊢
    have e3 : w3 = attrB a := e3
    subst e3
    refine ⟨⟨by decide, by decide, by rw [lenB]; omega⟩, ?_⟩
    rintro ⟨w4, _⟩ _ e4
    simp only at e4 ⊢
    have e4 : w4 = attrE a := e4
    subst e4
    rw [wrapK (i + 1) (by omega) (by omega)]
    refine ⟨by decide, by omega, by omega, ⟨by omega, by omega, ?_⟩, by omega⟩
    rw [show (i + 1).toNat = i.toNat + 1 by omega, hst]
  . have ezz : z = n.flatMap attrE := by rw [ez, List.take_of_length_le (by omega)]
    refine ⟨⟨by decide, by decide, by rw [lenB]; omega⟩, ?_⟩
    rintro ⟨w, _⟩ _ ew
    simp only at ew ⊢
    rw [ew, ezz, EncN, if_pos h]
    rfl
theorem h143 : c_r12_Encode.ok Tryz.prog GL 143 := con_ok (H := {}) (mkEnv_ok (gl := GL) (l := [(169, conSem c_r12_May), (110, conSem c_r03_Encode), (170, conSem c_r05_Kind), (171, conSem c_r12_put)]) (q := []) (d := []) _ tyOk (by kernel_rfl) ⟨h169.call, h110.call, h170.call, h171.call, trivial⟩ trivial trivial) (by kernel_rfl) (by kernel_rfl) (Eq.mp e143 k143)
def t168 : Prop :=
  ∀ (x : q0), (q222 x) -> lenB x.1 <= q155 -> lenB x.1 <= q84 /\ (∀ (y : q22), (q225 y) -> (y.1, y.2.1) = oneD x.1 -> q74 <= q69 /\ (decide (q236 y) = false -> True) /\ (decide (q236 y) =
  false -> (decide (q236 y) == false) = true /\ True) /\ (decide (q236 y) = false -> True) /\ (decide (q236 y) = false -> (decide (q236 y) == false) = true /\ (decide (q236 y) == false) =
  true /\ True) /\ (decide (q236 y) = false -> (decide (q236 y) == false) = true) /\ ((bif decide (q236 y) then true else decide (y.1.1 ≠ x.2.1)) = true -> ([], false) = insD x.1 x.2.1) /\
  ((bif decide (q236 y) then true else decide (y.1.1 ≠ x.2.1)) = false -> lenB y.1.2 <= q84 /\ (∀ (y_1 : q23), (q234 y_1) -> (y_1.1, y_1.2.1, y_1.2.2.1) = allD y.1.2 -> (y_1.1, decide (q235
  y_1)) = insD x.1 x.2.1) /\ True)) /\ True
theorem e168 : t168 = Con.vc c_r12_inside GL (mkEnv ty [(141, conSem c_r01_One), (182, conSem c_r01_All)] [] [] [0, 1, 4, 5, 6, 7, 8, 22]) {} Tryz.f168.ntmps Tryz.f168.results.toList (bodyOf Tryz.f168) := by kernel_rfl
theorem k168 : t168 := by
  unfold t168
  delta q0 q222 q155 q84 q22 q225 q74 q69 q236 q23 q234 q235 wyZ wiZ q403 q379 q450 q494 q512
  rintro ⟨b, t, _⟩ hx hp
  have hp : b.length ≤ 100000000 := hp
  try dsimp +instances only [dft_int, dft_sl, dft_str]
  simp only [true_and, and_true, eq_self_iff_true, implies_true, reduceCtorEq, false_implies, true_implies, decide_eq_true_eq, decide_eq_false_iff_not, beq_self_eq_true, Bool.not_eq_true', ne_eq, Decidable.not_not, List.nil_append, List.length_singleton, List.length_cons, List.length_nil, Nat.zero_add, Nat.add_zero, Nat.mul_one, and_self, beq_iff_eq, Bool.not_true, Bool.not_false, Bool.not_eq_false', Bool.cond_false_right, Bool.and_eq_true, imp_self, Bool.not_eq_true, Bool.cond_true_left, Bool.or_eq_true]
  have hol := oneD_len b
  refine ⟨by rw [lenB]; omega, ?_⟩
  rintro ⟨x, e, _⟩ _ h
  simp only at h ⊢
  rw [insD, ← h]
  rw [← h] at hol
  refine ⟨by decide, fun h2 => by rw [if_pos h2], fun h2 => ⟨by rw [lenB]; simp only at hol; omega, ?_⟩⟩
  simp only [Bool.or_eq_false_iff, decide_eq_false_iff_not] at h2
  rintro ⟨l, n, e2, _⟩ _ el
  simp only at el ⊢
  rw [if_neg (fun hh => hh.elim h2.1 h2.2), ← el]
theorem h168 : c_r12_inside.ok Tryz.prog GL 168 := con_ok (H := {}) (mkEnv_ok (gl := GL) (l := [(141, conSem c_r01_One), (182, conSem c_r01_All)]) (q := []) (d := []) _ tyOk (by kernel_rfl) ⟨h141.call, h182.call, trivial⟩ trivial trivial) (by kernel_rfl) (by kernel_rfl) (Eq.mp e168 k168)
def t142 : Prop :=
  ∀ (x : q5), (q160 x) -> lenB x.1 <= q155 -> lenB x.1 <= q155 /\ (∀ (y : List q194 × Bool × Unit), (Kd.wf q192 y.1 /\ wbZ y.2.1 /\ True) -> (y.1, y.2.1) = insD x.1 q233 -> ∃ (I : q24), ∃ (μ
  : q25), (x.1 = x.1 /\ y.1 = y.1 /\ I (q40, ()) ([], [], ())) /\ ∀ (y_1 : q1) (z : q26), (q36 y_1) -> (Kd.wf q244 z.1 /\ Kd.wf q244 z.2.1 /\ True) -> I y_1 z -> (decide (y_1.1 < (lnZ y.1)) =
  true -> (q40 <= y_1.1 /\ y_1.1 < (lnZ y.1)) /\ lenB (List.getD y.1 (q377 y_1) q243).2 <= q155 /\ (∀ (y_2 : List q194 × Bool × Unit), (Kd.wf q192 y_2.1 /\ wbZ y_2.2.1 /\ True) -> (y_2.1,
  y_2.2.1) = insD (List.getD y.1 (q377 y_1) q243).2 q233 -> ((!y_2.2.1) = false -> True) /\ ((!y_2.2.1) = false -> ((!y_2.2.1) == false) = true /\ True) /\ ((!y_2.2.1) = false -> ((!y_2.2.1)
  == false) = true /\ True) /\ ((!y_2.2.1) = false -> ((!y_2.2.1) == false) = true) /\ ((q407 y_2) = false -> True) /\ ((q407 y_2) = false -> ((q407 y_2) == false) = true /\ (q40 <= q40 /\
  q40 < (lnZ y_2.1)) /\ True) /\ (q239 y_2) /\ (q239 y_2) /\ (q239 y_2) /\ (q239 y_2) /\ ((q407 y_2) = false -> ((q407 y_2) == false) = true) /\ ((q238 y_2) = true -> [] = guessD x.1) /\
  ((q238 y_2) = false -> (q40 <= q40 /\ q40 < (lnZ y_2.1)) /\ (q40 <= q72 /\ q72 < (lnZ y_2.1)) /\ ((q241 y_2) /\ (((((((q71 < q74 /\ (q237 z y_2) * q245 <= q159 /\ List.length z.1 +
  List.length [(wrZ (q240 y_2), (q242 y_2).2)] <= q158 /\ x.1 = x.1 /\ y.1 = y.1 /\ I (wrZ (q217 y_1), ()) (z.1 ++ [(wrZ (q240 y_2), (q242 y_2).2)], z.2.1, ()) /\ μ (wrZ (q217 y_1), ()) (z.1
  ++ [(wrZ (q240 y_2), (q242 y_2).2)], z.2.1, ()) < μ y_1 z) /\ True) /\ True) /\ True) /\ True) /\ True) /\ ((((((q71 < q74 /\ (q237 z y_2) * q245 <= q159 /\ List.length z.1 + List.length
  [(wrZ (q240 y_2), (q242 y_2).2)] <= q158 /\ x.1 = x.1 /\ y.1 = y.1 /\ I (wrZ (q217 y_1), ()) (z.1 ++ [(wrZ (q240 y_2), (q242 y_2).2)], z.2.1, ()) /\ μ (wrZ (q217 y_1), ()) (z.1 ++ [(wrZ
  (q240 y_2), (q242 y_2).2)], z.2.1, ()) < μ y_1 z) /\ True) /\ True) /\ True) /\ True) /\ (((((q71 < q74 /\ (q237 z y_2) * q245 <= q159 /\ List.length z.1 + List.length [(wrZ (q240 y_2),
  (q242 y_2).2)] <= q158 /\ x.1 = x.1 /\ y.1 = y.1 /\ I (wrZ (q217 y_1), ()) (z.1 ++ [(wrZ (q240 y_2), (q242 y_2).2)], z.2.1, ()) /\ μ (wrZ (q217 y_1), ()) (z.1 ++ [(wrZ (q240 y_2), (q242
  y_2).2)], z.2.1, ()) < μ y_1 z) /\ True) /\ True) /\ True) /\ True) /\ True) /\ True) /\ (((((((q71 < q74 /\ (q237 z y_2) * q245 <= q159 /\ List.length z.1 + List.length [(wrZ (q240 y_2),
  (q242 y_2).2)] <= q158 /\ x.1 = x.1 /\ y.1 = y.1 /\ I (wrZ (q217 y_1), ()) (z.1 ++ [(wrZ (q240 y_2), (q242 y_2).2)], z.2.1, ()) /\ μ (wrZ (q217 y_1), ()) (z.1 ++ [(wrZ (q240 y_2), (q242
  y_2).2)], z.2.1, ()) < μ y_1 z) /\ True) /\ True) /\ True) /\ True) /\ (((((q71 < q74 /\ (q237 z y_2) * q245 <= q159 /\ List.length z.1 + List.length [(wrZ (q240 y_2), (q242 y_2).2)] <=
  q158 /\ x.1 = x.1 /\ y.1 = y.1 /\ I (wrZ (q217 y_1), ()) (z.1 ++ [(wrZ (q240 y_2), (q242 y_2).2)], z.2.1, ()) /\ μ (wrZ (q217 y_1), ()) (z.1 ++ [(wrZ (q240 y_2), (q242 y_2).2)], z.2.1, ())
  < μ y_1 z) /\ True) /\ True) /\ True) /\ True) /\ True) /\ ((((((q71 < q74 /\ (q237 z y_2) * q245 <= q159 /\ List.length z.1 + List.length [(wrZ (q240 y_2), (q242 y_2).2)] <= q158 /\ x.1 =
  x.1 /\ y.1 = y.1 /\ I (wrZ (q217 y_1), ()) (z.1 ++ [(wrZ (q240 y_2), (q242 y_2).2)], z.2.1, ()) /\ μ (wrZ (q217 y_1), ()) (z.1 ++ [(wrZ (q240 y_2), (q242 y_2).2)], z.2.1, ()) < μ y_1 z) /\
  True) /\ True) /\ True) /\ True) /\ True) /\ True) /\ True) /\ (((q241 y_2) /\ ((((((q71 < q74 /\ (q237 z y_2) * q245 <= q159 /\ List.length z.1 + List.length [(wrZ (q240 y_2), (q242
  y_2).2)] <= q158 /\ x.1 = x.1 /\ y.1 = y.1 /\ I (wrZ (q217 y_1), ()) (z.1 ++ [(wrZ (q240 y_2), (q242 y_2).2)], z.2.1, ()) /\ μ (wrZ (q217 y_1), ()) (z.1 ++ [(wrZ (q240 y_2), (q242 y_2).2)],
  z.2.1, ()) < μ y_1 z) /\ True) /\ True) /\ True) /\ True) /\ (((((q71 < q74 /\ (q237 z y_2) * q245 <= q159 /\ List.length z.1 + List.length [(wrZ (q240 y_2), (q242 y_2).2)] <= q158 /\ x.1 =
  x.1 /\ y.1 = y.1 /\ I (wrZ (q217 y_1), ()) (z.1 ++ [(wrZ (q240 y_2), (q242 y_2).2)], z.2.1, ()) /\ μ (wrZ (q217 y_1), ()) (z.1 ++ [(wrZ (q240 y_2), (q242 y_2).2)], z.2.1, ()) < μ y_1 z) /\
  True) /\ True) /\ True) /\ True) /\ True) /\ ((((((q71 < q74 /\ (q237 z y_2) * q245 <= q159 /\ List.length z.1 + List.length [(wrZ (q240 y_2), (q242 y_2).2)] <= q158 /\ x.1 = x.1 /\ y.1 =
  y.1 /\ I (wrZ (q217 y_1), ()) (z.1 ++ [(wrZ (q240 y_2), (q242 y_2).2)], z.2.1, ()) /\ μ (wrZ (q217 y_1), ()) (z.1 ++ [(wrZ (q240 y_2), (q242 y_2).2)], z.2.1, ()) < μ y_1 z) /\ True) /\
  True) /\ True) /\ True) /\ True) /\ True) /\ (((q241 y_2) /\ (((((q71 < q74 /\ (q237 z y_2) * q245 <= q159 /\ List.length z.1 + List.length [(wrZ (q240 y_2), (q242 y_2).2)] <= q158 /\ x.1 =
  x.1 /\ y.1 = y.1 /\ I (wrZ (q217 y_1), ()) (z.1 ++ [(wrZ (q240 y_2), (q242 y_2).2)], z.2.1, ()) /\ μ (wrZ (q217 y_1), ()) (z.1 ++ [(wrZ (q240 y_2), (q242 y_2).2)], z.2.1, ()) < μ y_1 z) /\
  True) /\ True) /\ True) /\ True) /\ True) /\ True) /\ True) /\ True)) /\ True) /\ (decide (y_1.1 < (lnZ y.1)) = false -> z.1 = guessD x.1)) /\ True
theorem e142 : t142 = Con.vc c_r12_guess GL (mkEnv ty [(168, conSem c_r12_inside)] [] [] [0, 2, 3, 5, 6, 7, 8, 17, 43]) {} Tryz.f142.ntmps Tryz.f142.results.toList (bodyOf Tryz.f142) := by kernel_rfl
theorem k142 : t142 := by
  unfold t142
  delta q5 q160 q155 q194 q192 wbZ q233 q24 q25 q40 q1 q26 q36 q244 lnZ q377 q243 q407 q239 q238 q72 q241 q71 q74 q237 q245 q159 wrZ q240 q242 q158 q217 wyZ q403 wiZ q415 q428 q454 q379 q429 q387 q412 q417 q494 q493 q495 q488 q512
  rintro ⟨b, _⟩ hx hp
  have hp : b.length ≤ 100000000 := hp
  try dsimp +instances only [dft_int, dft_sl, dft_str]
  simp only [true_and, and_true, eq_self_iff_true, implies_true, reduceCtorEq, false_implies, true_implies, decide_eq_true_eq, decide_eq_false_iff_not, beq_self_eq_true, Bool.not_eq_true', ne_eq, Decidable.not_not, List.nil_append, List.length_singleton, List.length_cons, List.length_nil, Nat.zero_add, Nat.add_zero, Nat.mul_one, and_self, beq_iff_eq, Bool.not_true, Bool.not_false, Bool.not_eq_false', Bool.cond_false_right, Bool.and_eq_true, imp_self, Bool.not_eq_true, Bool.cond_true_left, Bool.or_eq_true]
  simp only [edft_eq]
  obtain ⟨hil, hie⟩ := insD_len b 48
  refine ⟨hp, ?_⟩
  rintro ⟨l, ok, _⟩ hwl h
  simp only at h ⊢
  have hl : (insD b 48).1 = l := by rw [← h]
  rw [hl] at hil hie
  refine ⟨fun y z => 0 ≤ y.1 ∧ y.1 ≤ l.length ∧ (z.1 : List AttrT).length ≤ y.1 ∧ gAll l = (gAll (l.drop y.1.toNat)).map (z.1 ++ ·), fun y _ => ((l.length : Int) - y.1).toNat, ⟨Int.le_refl 0, by simp only; omega, by simp, by simp⟩, ?_⟩
  rintro ⟨i, _⟩ ⟨acc, v, _⟩ _ _ ⟨i0, i1, hal, hg⟩
  simp only at i0 i1 hal hg ⊢
  refine ⟨fun hlt => ?_, fun hge => ?_⟩
  . have hmem := mem_getD edft l i.toNat (by omega)
    rw [drop_consA edft l i.toNat (by omega)] at hg
    generalize l.getD i.toNat edft = x at hg hmem
    have hxl := hie x hmem
    refine ⟨⟨i0, hlt⟩, by rw [lenB]; omega, ?_⟩
    rintro ⟨two, ok2, _⟩ hw2 h2
    simp only at h2 ⊢
    have q1 : (insD x.2 48).1 = two := by rw [← h2]
    have q2 : (insD x.2 48).2 = ok2 := by rw [← h2]
    refine ⟨fun g => ⟨g, by decide, ?_⟩, fun g => ?_, fun g => ?_⟩
    . simp only [Bool.or_eq_false_iff, decide_eq_false_iff_not, Decidable.not_not] at g
      omega
    . have hn : gOne x = none := by
        rw [gOne, q1, q2, if_neg]
        rintro ⟨g1, g2, g3⟩
        rcases g with (g | g) | g
        . rw [g1] at g; cases g
        . omega
        . omega
      rw [gAll_bad hn] at hg
      rw [guessD, hl, hg]
      rfl
    . rw [Bool.or_eq_false_iff, Bool.or_eq_false_iff, Bool.not_eq_false'] at g
      obtain ⟨⟨g1, g2⟩, g3⟩ := g
      have g2 := dec_not g2
      have g3 := dec_not g3
      have hs : gOne x = some ((two.getD 0 edft).2.getD 2 0, (two.getD 1 edft).2) := by
        rw [gOne, q1, q2, if_pos ⟨g1, by omega, by omega⟩]
      rw [gAll_step hs] at hg
      have hw0 : Kd.wf BY (two.getD 0 edft).2 := by
        have := hw2.1.2 _ (mem_getD edft two 0 (by omega))
        exact this.2
      have hb2 := bys_get (sl_bys hw0) 2
      rw [wrapK (i + 1) (by omega) (by omega), wrapK ((two.getD 0 edft).2.getD 2 0) (by omega) (by omega)]
      refine ⟨⟨by decide, by omega⟩, ⟨by decide, by omega⟩, ⟨by decide, by omega⟩, by decide, by omega, by omega, ⟨by omega, by omega, by rw [List.length_append, List.length_singleton]; omega, ?_⟩, by omega⟩
      rw [hg, show i.toNat + 1 = (i + 1).toNat by omega]
      cases gAll (l.drop (i + 1).toNat) <;> simp
  . rw [List.drop_of_length_le (by omega)] at hg
    rw [guessD, hl, hg]
    simp [gAll]
theorem h142 : c_r12_guess.ok Tryz.prog GL 142 := con_ok (H := {}) (mkEnv_ok (gl := GL) (l := [(168, conSem c_r12_inside)]) (q := []) (d := []) _ tyOk (by kernel_rfl) ⟨h168.call, trivial⟩ trivial trivial) (by kernel_rfl) (by kernel_rfl) (Eq.mp e142 k142)
def t98 : Prop :=
  ∀ (x : q5), (q160 x) -> lenB x.1 <= q155 -> lenB x.1 <= q84 /\ (∀ (y : q22), (q225 y) -> (y.1, y.2.1) = oneD x.1 -> q74 <= q69 /\ (decide (q236 y) = true -> decQ x.1 [] y.2.1 = true) /\
  (decide (q236 y) = false -> lenB x.1 <= q155 /\ (∀ (y : q14), (q156 y) -> y.1 = guessD x.1 -> (List.length y.1 <= q84 /\ ∀ (a : Int × List Int), a ∈ y.1 -> List.length a.2 <= q155) /\ (∀
  (y_1 : q0), (q222 y_1) -> (y_1.1, y_1.2.1) = EncN y.1 -> (q250 y_1) /\ (q247 y_1) /\ (q250 y_1) /\ (q247 y_1) /\ (q246 y_1) /\ (q248 y_1) /\ ((q249 y_1 x) = true -> decQ x.1 [] (120 : Int)
  = true) /\ ((q249 y_1 x) = false -> decQ x.1 y.1 q40 = true)) /\ True) /\ True)) /\ True
theorem e98 : t98 = Con.vc c_r12_Decode GL (mkEnv ty [(141, conSem c_r01_One), (142, conSem c_r12_guess), (143, conSem c_r12_Encode)] [] [] [0, 2, 3, 5, 6, 7, 14, 31]) {} Tryz.f98.ntmps Tryz.f98.results.toList (bodyOf Tryz.f98) := by kernel_rfl
theorem k98 : t98 := by
  unfold t98
  delta q5 q160 q155 q84 q22 q225 q74 q69 q236 q14 q156 q0 q222 q250 q247 q246 q248 q249 q40 wyZ q403 wiZ q379 q440 q494 q500
  rintro ⟨b, _⟩ hx hp
  have hp : b.length ≤ 100000000 := hp
  try dsimp +instances only [dft_int, dft_sl, dft_str]
  simp only [true_and, and_true, eq_self_iff_true, implies_true, reduceCtorEq, false_implies, true_implies, decide_eq_true_eq, decide_eq_false_iff_not, beq_self_eq_true, Bool.not_eq_true', ne_eq, Decidable.not_not, List.nil_append, List.length_singleton, List.length_cons, List.length_nil, Nat.zero_add, Nat.add_zero, Nat.mul_one, and_self, beq_iff_eq, Bool.not_true, Bool.not_false, Bool.not_eq_false', Bool.cond_false_right, Bool.and_eq_true, imp_self, Bool.not_eq_true, Bool.cond_true_left, Bool.or_eq_true]
  obtain ⟨hgl, hge⟩ := guess_len b
  refine ⟨by rw [lenB]; omega, ?_⟩
  rintro ⟨x, e, _⟩ _ h
  simp only at h ⊢
  have o3 : (oneD b).2 = e := by rw [← h]
  refine ⟨by decide, fun h2 => decQ_iff.2 (.inl ⟨by rw [o3]; exact h2, o3.symm, rfl⟩), fun h2 => ⟨hp, ?_⟩⟩
  subst h2
  rintro ⟨n, _⟩ _ en
  simp only at en ⊢
  subst en
  refine ⟨⟨by omega, fun a ha => by have := hge a ha; omega⟩, ?_⟩
  rintro ⟨c, e2, _⟩ _ ec
  simp only at ec ⊢
  have hg := guess_dec o3
  rw [← ec] at hg
  refine ⟨fun h => ?_, fun h => ?_⟩
  . rwa [if_neg (fun h2 => by obtain ⟨rfl, rfl⟩ := Prod.mk.inj h2; exact h.elim (fun h => h rfl) (fun h => h rfl)), if_neg (fun h2 => by obtain ⟨rfl, rfl⟩ := Prod.mk.inj h2; exact h.elim (fun h => h rfl) (fun h => h rfl))] at hg
  . simp only [Bool.or_eq_false_iff, decide_eq_false_iff_not, Decidable.not_not] at h
    obtain ⟨rfl, rfl⟩ := h
    rwa [if_pos rfl, if_pos rfl] at hg
theorem h98 : c_r12_Decode.ok Tryz.prog GL 98 := con_ok (H := {}) (mkEnv_ok (gl := GL) (l := [(141, conSem c_r01_One), (142, conSem c_r12_guess), (143, conSem c_r12_Encode)]) (q := []) (d := []) _ tyOk (by kernel_rfl) ⟨h141.call, h142.call, h143.call, trivial⟩ trivial trivial) (by kernel_rfl) (by kernel_rfl) (Eq.mp e98 k98)
end Go.Proofs.YtiofbnlbfmbodaaGreatDoor
end
section
namespace Go.Proofs.YtiofbnlbfmbodaaGreatDoor
open Go Go.Vc Go.Pl Go.Proofs
def c_name_attr : Con := { args := [.dat BY], res := [.dat AT, .dat .bool], pre := fun x => lenB x.1 ≤ 100000000, post := fun x y => attrQ x.1 y.1 y.2.1 = true }
def c_name_Decode : Con := { args := [.dat BY], res := [.own 218 AT, .dat I64], pre := fun x => lenB x.1 ≤ 100000000, post := fun x y => decQ x.1 y.1 y.2.1 = true }
end Go.Proofs.YtiofbnlbfmbodaaGreatDoor
end
section
namespace Go.Proofs.YtiofbnlbfmbodaaGreatDoor
open Go Go.Vc Go.Pl Go.Proofs
set_option linter.unusedVariables false
set_option linter.unusedSimpArgs false
set_option maxRecDepth 20000
abbrev q410 (p0 : q6) := (decide (p0.2.1 = (0 : Int)) = true -> (decide (p0.2.1 = (0 : Int)) == true) = true /\ (decide (p0.2.1 = (0 : Int)) == true) = true /\ True)
abbrev q411 (p0 : q6) := (decide (p0.2.1 = (0 : Int)) = true -> (decide (p0.2.1 = (0 : Int)) == true) = true)
abbrev q455 (p0 : q6) (p1 : (Int × List Int × Unit) × List (Int × List Int) × List Int × (Int × List Int × Unit) × Unit) := (bif decide (p0.2.1 = (0 : Int)) then decide (p0.1 = (List.getD
  p1.2.1 (1 : Nat) q495).1) else false)
abbrev q251 (p0 : q6) (p1 : (Int × List Int × Unit) × List (Int × List Int) × List Int × (Int × List Int × Unit) × Unit) (p2 : q5) := ((q410 p0) /\ ((q411 p0) /\ (((q455 p0 p1) = true ->
  True) /\ (((q455 p0 p1) = true -> ((q455 p0 p1) == true) = true /\ True /\ (∀ (y : q4), (wbZ y.1 /\ True) -> y.1 = mayA (p1.2.2.2.1.1, p1.2.2.2.1.2.1) -> (attrQ p2.1 (p1.2.2.2.1.1,
  p1.2.2.2.1.2.1) y.1 = true /\ True) /\ (attrQ p2.1 (p1.2.2.2.1.1, p1.2.2.2.1.2.1) y.1 = true /\ True) /\ True) /\ True) /\ ((q455 p0 p1) = !true -> (attrQ p2.1 (p1.2.2.2.1.1,
  p1.2.2.2.1.2.1) false = true /\ True) /\ (attrQ p2.1 (p1.2.2.2.1.1, p1.2.2.2.1.2.1) false = true /\ True) /\ True)) /\ True) /\ True) /\ True)
abbrev q456 (p0 : q0) (p1 : List Int × Bool × Unit) (p2 : q4) (p3 : q5) (p4 : Unit -> (Int × List Int × Unit) × List (Int × List Int) × List Int × (Int × List Int × Unit) × Unit -> Prop)
  (p5 : (Int × List Int × Unit) × List (Int × List Int) × List Int × Unit) := ((p0.2.1 = p0.2.1 /\ Value.bool false = Value.bool false /\ p1.2.1 = p1.2.1 /\ p1.1 = p1.1 /\ p2.1 = p2.1 /\ p3.1
  = p3.1 /\ p4 () ((p5.1.1, p5.1.2.1, ()), p5.2.1, p5.2.2.1, (List.getD p5.2.2.1 (3 : Nat) (Kd.dft q494), (List.getD p5.2.1 (1 : Nat) q495).2, ()), ())) /\ True)
abbrev q252 (p0 : q0) (p1 : List Int × Bool × Unit) (p2 : q4) (p3 : q5) (p4 : Unit -> (Int × List Int × Unit) × List (Int × List Int) × List Int × (Int × List Int × Unit) × Unit -> Prop)
  (p5 : (Int × List Int × Unit) × List (Int × List Int) × List Int × Unit) := (((((2 : Nat) <= q448 /\ (p0.2.1 = p0.2.1 /\ Value.bool false = Value.bool false /\ p1.2.1 = p1.2.1 /\ p1.1 =
  p1.1 /\ p2.1 = p2.1 /\ p3.1 = p3.1 /\ p4 () ((p5.1.1, p5.1.2.1, ()), p5.2.1, p5.2.2.1, (List.getD p5.2.2.1 (3 : Nat) (Kd.dft q494), (List.getD p5.2.1 (1 : Nat) q495).2, ()), ())) /\ True)
  /\ True) /\ ((2 : Nat) <= q448 /\ (q456 p0 p1 p2 p3 p4 p5) /\ True) /\ True) /\ ((2 : Nat) <= q448 /\ ((q456 p0 p1 p2 p3 p4 p5) /\ True) /\ True) /\ True)
abbrev q253 (p0 : q0) (p1 : List Int × Bool × Unit) (p2 : q4) (p3 : q5) (p4 : Unit -> (Int × List Int × Unit) × List (Int × List Int) × List Int × (Int × List Int × Unit) × Unit -> Prop)
  (p5 : (Int × List Int × Unit) × List (Int × List Int) × List Int × Unit) := (((q456 p0 p1 p2 p3 p4 p5) /\ True) /\ True)
abbrev q457 (p0 : List Int × Bool × Unit) (p1 : q23) := (bif bif !p0.2.1 then true else decide (p1.2.2.1 ≠ q482) then true else decide ((lnZ p1.1) ≠ (2 : Int)))
abbrev q254 (p0 : List Int × Bool × Unit) (p1 : q23) := ((q457 p0 p1) = false -> ((q457 p0 p1) == false) = true /\ True)
abbrev q416 (p0 : q23) := (p0.2.2.1 ≠ q482)
abbrev q255 (p0 : List Int × Bool × Unit) (p1 : q23) := (bif bif bif !p0.2.1 then true else decide (q416 p1) then true else decide ((lnZ p1.1) ≠ q428) then true else decide ((List.getD p1.1
  q402 q412).1 ≠ (6 : Int)))
abbrev q413 (p0 : List Int × Bool × Unit) (p1 : q23) := (bif !p0.2.1 then true else decide (p1.2.2.1 ≠ q482))
abbrev q256 (p0 : List Int × Bool × Unit) (p1 : q23) := ((q413 p0 p1) = false -> ((q413 p0 p1) == false) = true /\ True)
abbrev q257 (p0 : List Int × Bool × Unit) (p1 : q23) := ((q457 p0 p1) == false)
abbrev q258 (p0 : List Int × Bool × Unit) (p1 : q23) := (bif bif !p0.2.1 then true else decide (q416 p1) then true else decide ((lnZ p1.1) ≠ q428))
abbrev q259 (p0 : q6) := (decide (p0.2.1 = (0 : Int)) = true -> (decide (p0.2.1 = (0 : Int)) == true) = true /\ True)
abbrev q260 (p0 : q0) := (bif decide (p0.2.1 ≠ q379) then true else decide ((lnZ p0.1) ≠ (4 : Int)))
abbrev q261 := (Int × List Int × Unit)
abbrev q414 (p0 : q23) (p1 : q22) := (bif decide (p0.2.2.1 ≠ q482) then true else decide (p1.1.1 ≠ (48 : Int)))
abbrev q262 (p0 : q23) (p1 : q22) := ((q414 p0 p1) = false -> ((q414 p0 p1) == false) = true /\ True)
abbrev q263 (p0 : q23) (p1 : q22) := (bif bif decide (q416 p0) then true else decide (p1.1.1 ≠ q383) then true else decide ((16 : Int) < (lnZ p0.1)))
abbrev q264 (p0 : (Int × List Int × Unit) × List (Int × List Int) × List (Int × List Int) × List (Int × List Int) × Unit) (p1 : q6) := (List.getD p0.2.1 (Int.toNat p1.1) q412)
abbrev q516 (p0 : q6) (p1 : q261 × List q194 × List Int × q261 × Unit) := (p0.1 = (List.getD p1.2.1 (1 : Nat) (Kd.dft (Kd.pair (Kd.int IntKind.i64) (Kd.sl (Kd.int IntKind.u8))))).1)
abbrev q513 (p0 : q6) (p1 : q261 × List q194 × List Int × q261 × Unit) := (bif decide (p0.2.1 = (0 : Int)) then decide (q516 p0 p1) else false)
abbrev q484 (p0 : q6) (p1 : q261 × List q194 × List Int × q261 × Unit) := ((q513 p0 p1) = true -> True)
abbrev q507 (p0 : q6) (p1 : q261 × List q194 × List Int × q261 × Unit) := ((bif decide (p0.2.1 = (0 : Int)) then decide (q516 p0 p1) else false) == true)
abbrev q509 (p0 : q5) (p1 : q261 × List q194 × List Int × q261 × Unit) (p2 : q4) := (attrQ p0.1 (p1.2.2.2.1.1, p1.2.2.2.1.2.1) p2.1 = true /\ True)
abbrev q508 (p0 : q5) (p1 : q261 × List q194 × List Int × q261 × Unit) := (attrQ p0.1 (p1.2.2.2.1.1, p1.2.2.2.1.2.1) false = true /\ True)
abbrev q483 (p0 : q6) (p1 : q261 × List q194 × List Int × q261 × Unit) (p2 : q5) := (((q513 p0 p1) = true -> (q507 p0 p1) = true /\ True /\ (∀ (y : q4), (wbZ y.1 /\ True) -> y.1 = mayA
  (p1.2.2.2.1.1, p1.2.2.2.1.2.1) -> (q509 p2 p1 y) /\ (q509 p2 p1 y) /\ True) /\ True) /\ ((q513 p0 p1) = !true -> (q508 p2 p1) /\ (q508 p2 p1) /\ True))
abbrev q408 (p0 : q6) (p1 : q261 × List q194 × List Int × q261 × Unit) (p2 : q5) := ((q484 p0 p1) /\ (q483 p0 p1 p2) /\ True)
abbrev q409 (p0 : q6) (p1 : q261 × List q194 × List Int × q261 × Unit) := (bif decide (p0.2.1 = (0 : Int)) then decide (q516 p0 p1) else false)
def t187 : Prop :=
  ∀ (x : q5), (q160 x) -> lenB x.1 <= q155 -> q74 <= q69 /\ lenB x.1 <= q155 /\ (∀ (y : List Int × Bool × Unit), (wyZ y.1 /\ wbZ y.2.1 /\ True) -> y.1 = (oneD x.1).1.2 /\ y.2.1 = (decide
  ((oneD x.1).2 = q40) && decide ((oneD x.1).1.1 = q233)) -> lenB y.1 <= q84 /\ (∀ (y_1 : q23), (q234 y_1) -> (y_1.1, y_1.2.1, y_1.2.2.1) = allD y.1 -> ((!y.2.1) = false -> True) /\ ((!y.2.1)
  = false -> ((!y.2.1) == false) = true /\ True) /\ ((!y.2.1) = false -> ((!y.2.1) == false) = true) /\ ((q413 y y_1) = false -> True) /\ (q256 y y_1) /\ (q256 y y_1) /\ ((q413 y y_1) = false
  -> ((q413 y y_1) == false) = true) /\ ((q258 y y_1) = false -> True) /\ ((q258 y y_1) = false -> (q257 y y_1) = true /\ (q40 <= q40 /\ q40 < (lnZ y_1.1)) /\ True) /\ (q254 y y_1) /\ (q254 y
  y_1) /\ (q254 y y_1) /\ ((q258 y y_1) = false -> (q257 y y_1) = true) /\ ((q255 y y_1) = true -> attrQ x.1 (q40, bs { data := #[] }) false = true) /\ ((q255 y y_1) = false -> (q40 <= q40 /\
  q40 < (lnZ y_1.1)) /\ True /\ (∀ (y_2 : q0), (Kd.wf q206 y_2.1 /\ wiZ y_2.2.1 /\ True) -> (y_2.1, y_2.2.1) = DecD (List.getD y_1.1 q402 q412).2 -> ∃ (J : Bool × Unit -> q261 × List q194 ×
  List Int × Unit -> Prop), ((q250 y_2) /\ (q247 y_2) /\ (q247 y_2) /\ (q248 y_2) /\ ((q260 y_2) = false -> True) /\ ((q260 y_2) = false -> ((q260 y_2) == false) = true /\ True /\ (∀ (y_3 :
  q4), (q47 y_3) -> y_3.1 = decide (List.take (List.length [q75, (5 : Int), q73]) y_2.1 = [q75, (5 : Int), q73]) -> ((!y_3.1) = true -> attrQ x.1 (q40, bs { data := #[] }) false = true) /\
  ((!y_3.1) = false -> y_2.2.1 = y_2.2.1 /\ Value.bool false = Value.bool false /\ y.2.1 = y.2.1 /\ y.1 = y.1 /\ x.1 = x.1 /\ J (false, ()) ((q40, bs { data := #[] }, ()), y_1.1, y_2.1, ())))
  /\ True) /\ ((q260 y_2) = !false -> attrQ x.1 (q40, bs { data := #[] }) false = true)) /\ ∀ (u : q4) (z : q261 × List q194 × List Int × Unit), (q47 u) -> (wiZ z.1.1 /\ wsZ z.1.2.1 /\ True)
  /\ (Kd.wf q192 z.2.1 /\ Kd.wf q206 z.2.2.1 /\ True) -> J u z -> ∃ (J : Unit -> q261 × List q194 × List Int × q261 × Unit -> Prop), ((q40 <= (3 : Int) /\ (3 : Int) < (lnZ z.2.2.1)) /\ (q40
  <= q72 /\ q72 < (lnZ z.2.1)) /\ ((q252 y_2 y u x J z) /\ (q74 <= q69 /\ (q253 y_2 y u x J z) /\ True) /\ True) /\ ((q252 y_2 y u x J z) /\ (q252 y_2 y u x J z) /\ (q74 <= q69 /\ (q253 y_2 y
  u x J z) /\ (q253 y_2 y u x J z) /\ True) /\ True) /\ (q74 <= q69 /\ ((q253 y_2 y u x J z) /\ True) /\ ((q253 y_2 y u x J z) /\ (q253 y_2 y u x J z) /\ True) /\ True) /\ True) /\ ∀ (u :
  Unit) (z : q261 × List q194 × List Int × q261 × Unit), True -> (wiZ z.1.1 /\ wsZ z.1.2.1 /\ True) /\ Kd.wf q192 z.2.1 /\ Kd.wf q206 z.2.2.1 /\ (wiZ z.2.2.2.1.1 /\ wsZ z.2.2.2.1.2.1 /\ True)
  /\ True -> J u z -> True /\ (∀ (y : q6), (q94 y) -> y.1 = (kindD z.2.2.2.1.2.1).1 /\ y.2.1 = (kindD z.2.2.2.1.2.1).2 -> (decide (y.2.1 = (0 : Int)) = true -> (decide (y.2.1 = (0 : Int)) ==
  true) = true /\ (q40 <= q72 /\ q72 < (lnZ z.2.1)) /\ True) /\ (q259 y) /\ (((q259 y) /\ (q251 y z x) /\ True) /\ True) /\ ((q259 y) /\ ((q251 y z x) /\ True) /\ ((q410 y) /\ (((q411 y) /\
  (q408 y z x) /\ True) /\ True) /\ ((q411 y) /\ ((q408 y z x) /\ True) /\ ((q484 y z) /\ ((q483 y z x) /\ True) /\ (((q409 y z) = true -> (q507 y z) = true /\ True /\ (∀ (y : q4), (q47 y) ->
  y.1 = mayA (z.2.2.2.1.1, z.2.2.2.1.2.1) -> ((q509 x z y) /\ (q509 x z y) /\ True) /\ ((q509 x z y) /\ True) /\ True) /\ True) /\ ((q409 y z) = !true -> ((q508 x z) /\ (q508 x z) /\ True) /\
  ((q508 x z) /\ True) /\ True)) /\ True) /\ True) /\ True) /\ True) /\ True) /\ True) /\ True)) /\ True) /\ True
theorem e187 : t187 = Con.vc c_name_attr GL (mkEnvO ty [(193, conSem c_name_only), (72, conSem c_der_All), (113, conSem c_oid_Decode), (114, conSem c_oid_Begins), (194, conSem c_text_Kind), (195, conSem c_name_may)] [] [] [0, 2, 3, 4, 5, 6, 8, 9, 10, 11, 40, 62] [1000000]) {joins := [8,9], news := [(9,10,218)]} Tryz.f187.ntmps Tryz.f187.results.toList (bodyOf Tryz.f187) := by kernel_rfl
theorem k187 : t187 := by
  unfold t187
  delta q5 q160 q155 q74 q69 wyZ wbZ q40 q233 q84 q23 q234 q413 q256 q258 q257 lnZ q254 q255 q0 q206 wiZ q402 q412 q261 q194 q250 q247 q248 q260 q4 q47 q75 q73 wsZ q192 q72 q252 q253 q6 q94 q259 q251 q410 q411 q408 q484 q483 q409 q507 q509 q508 q450 q482 q416 q428 q457 q494 q512 q379 q403 q448 q495 q456 q455 q513 q516
  rintro ⟨b, _⟩ hx hp
  have hp : b.length ≤ 100000000 := hp
  have hb : Bys b := sl_bys hx.1
  try dsimp +instances only [dft_int, dft_sl, dft_str]
  simp only [true_and, and_true, eq_self_iff_true, implies_true, reduceCtorEq, false_implies, true_implies, decide_eq_true_eq, decide_eq_false_iff_not, beq_self_eq_true, Bool.not_eq_true', ne_eq, Decidable.not_not, List.nil_append, List.length_singleton, List.length_cons, List.length_nil, Nat.zero_add, Nat.add_zero, Nat.mul_one, and_self, beq_iff_eq, Bool.not_true, Bool.not_false, Bool.not_eq_false', Bool.cond_false_right, Bool.and_eq_true, imp_self, Bool.not_eq_true, Bool.cond_true_left, Bool.or_eq_true]
  simp only [edft_eq]
  rw [bs_nil]
  have hol := oneD_len b
  refine ⟨by decide, hp, ?_⟩
  rintro ⟨c, ok, _⟩ _ ⟨ec, eok⟩
  simp only at ec eok ⊢
  subst ec
  refine ⟨by rw [lenB]; omega, ?_⟩
  rintro ⟨l, n, e, _⟩ _ el
  simp only at el ⊢
  have hread : ∀ m, mayA m = true → attrB m = b → ok = true ∧ l = [(6, [85, 4, m.1]), elK m] ∧ e = 0 ∧ DecD [85, 4, m.1] = ([2, 5, 4, m.1], 0) := fun m hm he => by
    obtain ⟨r1, r2, r3⟩ := attr_read hm he
    rw [r2] at el
    simp only [Prod.mk.injEq] at el
    refine ⟨?_, el.1, el.2.2, r3⟩
    rw [eok, r1]
    rfl
  refine ⟨fun h => ⟨h, by decide, ?_⟩, fun h => attrQ_bad fun m hm he => ?_, fun h => ?_⟩
  . simp only [Bool.or_eq_false_iff, decide_eq_false_iff_not, Decidable.not_not] at h
    omega
  . obtain ⟨r1, r2, r3, _⟩ := hread m hm he
    subst r2
    rcases h with ((h | h) | h) | h
    . rw [r1] at h; cases h
    . exact h r3
    . exact h rfl
    . exact h rfl
  have hh := h
  rw [Bool.or_eq_false_iff, Bool.or_eq_false_iff, Bool.or_eq_false_iff, Bool.not_eq_false'] at hh
  obtain ⟨⟨⟨k1, k2⟩, k3⟩, k4⟩ := hh
  have k2 := dec_not k2
  have k3 := dec_not k3
  have k4 := dec_not k4
  have hll := two_list (l := l) (by omega)
  refine ⟨⟨by decide, by omega⟩, ?_⟩
  rintro ⟨arcs, e2, _⟩ _ ed
  simp only at ed ⊢
  have hread2 : ∀ m, mayA m = true → attrB m = b → l.getD 1 edft = elK m ∧ arcs = [2, 5, 4, m.1] ∧ e2 = 0 := fun m hm he => by
    obtain ⟨_, r2, _, r4⟩ := hread m hm he
    rw [r2] at ed ⊢
    have := ed.trans r4
    exact ⟨rfl, (Prod.mk.inj this).1, (Prod.mk.inj this).2⟩
  refine ⟨fun _ z => l = z.2.1 ∧ arcs = z.2.2.1 ∧ arcs.length = 4 ∧ arcs.take 3 = [2, 5, 4] ∧ e2 = 0, ⟨fun h => ⟨h, ?_⟩, fun h => attrQ_bad fun m hm he => ?_⟩, ?_⟩
  . rw [Bool.or_eq_false_iff] at h
    have g1 := dec_not h.1
    have g2 := dec_not h.2
    rintro ⟨q, _⟩ _ eq
    simp only at eq ⊢
    subst eq
    refine ⟨fun h => attrQ_bad fun m hm he => ?_, fun h => ⟨by trivial, by trivial, by omega, of_decide_eq_true h, g1⟩⟩
    obtain ⟨_, r3, _⟩ := hread2 m hm he
    rw [r3] at h
    exact absurd h (by simp)
  . obtain ⟨_, r3, r4⟩ := hread2 m hm he
    rcases h with h | h
    . exact h r4
    . rw [r3] at h; exact h rfl
  rintro ⟨u, _⟩ ⟨⟨z1, z2, _⟩, l', arcs', _⟩ _ _ ⟨j1, j2, j3, j4, j5⟩
  simp only at j1 j2 ⊢
  subst j1
  subst j2
  have harc := four_list (l := arcs) j3 j4
  refine ⟨fun _ z => l = z.2.1 ∧ arcs.getD 3 0 = z.2.2.2.1.1 ∧ (l.getD 1 edft).2 = z.2.2.2.1.2.1, ⟨⟨by decide, by omega⟩, ⟨by decide, by omega⟩, by decide, by trivial, by trivial, by trivial⟩, ?_⟩
  rintro _ ⟨⟨z3, z4, _⟩, l2, arcs2, ⟨k, v, _⟩, _⟩ _ ⟨q1, q2, q3⟩
  simp only at q1 q2 q3 ⊢
  subst q1
  subst q2
  subst q3
  rintro ⟨kd, ke, _⟩ _ ⟨hk1, hk2⟩
  simp only at hk1 hk2 ⊢
  refine ⟨fun h => ⟨h, by decide, by omega⟩, fun h => ⟨h, ?_⟩, fun h => attrQ_bad fun m hm he => ?_⟩
  . rintro ⟨q, _⟩ _ eq
    simp only at eq ⊢
    subst eq
    cases hq : mayA (arcs.getD 3 0, (l.getD 1 edft).2) with
    | true =>
      refine attrQ_iff.2 ⟨fun _ => ⟨hq, ?_⟩, fun h => by cases h⟩
      have ek : ok = true := k1
      rw [eok, Bool.and_eq_true, decide_eq_true_eq, decide_eq_true_eq] at ek
      refine read_attr (l := l) (arcs := arcs) hb ek.1 ek.2 (x := l.getD 0 edft) (y := l.getD 1 edft) (n := n) (by rw [← el, k2]; exact Prod.ext hll rfl) k4 ?_ rfl (by rw [← h.2, ← hk1]) hq
      simp only
      rw [← harc, ← ed, j5]
    | false =>
      refine attrQ_bad fun m hm he => ?_
      obtain ⟨r2, r3, _⟩ := hread2 m hm he
      rw [r2, r3] at hq
      have hq : mayA m = false := hq
      rw [hm] at hq
      cases hq
  . obtain ⟨r2, _, _⟩ := hread2 m hm he
    have hkm := (may_kind hm).1
    rw [r2] at hk1 hk2
    have hk2 : ke = (kindD m.2).2 := hk2
    have hk1 : kd = (kindD m.2).1 := hk1
    rw [Bool.and_eq_false_iff] at h
    rcases h with h | h
    . exact of_decide_eq_false h (hk2.trans hkm)
    . exact of_decide_eq_false h (by rw [r2]; exact hk1)
theorem h187 : c_name_attr.ok Tryz.prog GL 187 := conO_ok (H := {joins := [8,9], news := [(9,10,218)]}) (mkEnvO_ok (gl := GL) (l := [(193, conSem c_name_only), (72, conSem c_der_All), (113, conSem c_oid_Decode), (114, conSem c_oid_Begins), (194, conSem c_text_Kind), (195, conSem c_name_may)]) (q := []) (d := []) _ [1000000] tyOk (by kernel_rfl) ⟨h193.call, h72.call, h113.call, h114.call, h194.call, h195.call, trivial⟩ trivial trivial) (by kernel_rfl) (by kernel_rfl) (Eq.mp e187 k187)
def t174 : Prop :=
  ∀ (x : q5), (q160 x) -> lenB x.1 <= q155 -> lenB x.1 <= q84 /\ (∀ (y : q22), (q225 y) -> (y.1, y.2.1) = oneD x.1 -> q74 <= q69 /\ (decide (q236 y) = true -> decQ x.1 [] y.2.1 = true) /\
  (decide (q236 y) = false -> lenB y.1.2 <= q84 /\ (∀ (y_1 : q23), (q234 y_1) -> (y_1.1, y_1.2.1, y_1.2.2.1) = allD y.1.2 -> (decide (q416 y_1) = false -> True) /\ (decide (q416 y_1) = false
  -> (decide (q416 y_1) == false) = true /\ True) /\ (decide (q416 y_1) = false -> (decide (q416 y_1) == false) = true /\ True) /\ (decide (q416 y_1) = false -> (decide (q416 y_1) == false) =
  true) /\ ((q414 y_1 y) = false -> True) /\ (q262 y_1 y) /\ (q262 y_1 y) /\ ((q414 y_1 y) = false -> ((q414 y_1 y) == false) = true) /\ ((q263 y_1 y) = true -> decQ x.1 [] (120 : Int) =
  true) /\ ((q263 y_1 y) = false -> ∃ (I : Int × Int × Unit -> q261 × List q194 × List q194 × List q194 × Unit -> Prop), ∃ (μ : Int × Int × Unit -> q261 × List q194 × List q194 × List q194 ×
  Unit -> Nat), ((lnZ y_1.1) = (lnZ y_1.1) /\ Value.bool false = Value.bool false /\ y_1.2.2.1 = y_1.2.2.1 /\ Value.bool false = Value.bool false /\ y.2.1 = y.2.1 /\ x.1 = x.1 /\ I (q40, q40,
  ()) ((y.1.1, y.1.2, ()), y_1.1, [], [], ())) /\ ∀ (y_2 : q6) (z : q261 × List q194 × List q194 × List q194 × Unit), (q94 y_2) -> (wiZ z.1.1 /\ wyZ z.1.2.1 /\ True) /\ (Kd.wf q192 z.2.1 /\
  Kd.wf q244 z.2.2.1 /\ Kd.wf q244 z.2.2.2.1 /\ True) -> I y_2 z -> (decide (y_2.1 < (lnZ y_1.1)) = true -> (q40 <= y_2.1 /\ y_2.1 < (lnZ z.2.1)) /\ q74 <= q69 /\ lenB (q264 z y_2).2 <= q155
  /\ (∀ (y_3 : q194 × Bool × Unit), (Kd.wf q415 y_3.1 /\ wbZ y_3.2.1 /\ True) -> attrQ (q264 z y_2).2 y_3.1 y_3.2.1 = true -> q74 <= q69 /\ ((!y_3.2.1) = false -> True) /\ ((!y_3.2.1) = false
  -> ((!y_3.2.1) == false) = true /\ True) /\ ((!y_3.2.1) = false -> ((!y_3.2.1) == false) = true /\ True) /\ ((!y_3.2.1) = false -> ((!y_3.2.1) == false) = true) /\ ((bif !y_3.2.1 then true
  else decide ((q264 z y_2).1 ≠ (49 : Int))) = true -> decQ x.1 [] (120 : Int) = true) /\ ((bif !y_3.2.1 then true else decide ((q264 z y_2).1 ≠ (49 : Int))) = false -> q71 < q74 /\
  (List.length z.2.2.1 + List.length [(y_3.1.1, y_3.1.2)]) * q245 <= q159 /\ List.length z.2.2.1 + List.length [(y_3.1.1, y_3.1.2)] <= q158 /\ (lnZ y_1.1) = (lnZ y_1.1) /\ Value.bool false =
  Value.bool false /\ y_1.2.2.1 = y_1.2.2.1 /\ Value.bool false = Value.bool false /\ y.2.1 = y.2.1 /\ x.1 = x.1 /\ I (wrZ (q95 y_2), y_2.2.1, ()) ((z.1.1, z.1.2.1, ()), z.2.1, z.2.2.1 ++
  [(y_3.1.1, y_3.1.2)], z.2.2.2.1, ()) /\ μ (wrZ (q95 y_2), y_2.2.1, ()) ((z.1.1, z.1.2.1, ()), z.2.1, z.2.2.1 ++ [(y_3.1.1, y_3.1.2)], z.2.2.2.1, ()) < μ y_2 z)) /\ True) /\ (decide (y_2.1 <
  (lnZ y_1.1)) = false -> decQ x.1 z.2.2.1 q40 = true))) /\ True)) /\ True
theorem e174 : t174 = Con.vc c_name_Decode GL (mkEnv ty [(102, conSem c_der_One), (72, conSem c_der_All), (187, conSem c_name_attr)] [] [] [0, 2, 3, 4, 5, 6, 8, 9, 11, 12, 13, 20, 40, 41, 42, 43, 44, 59]) {} Tryz.f174.ntmps Tryz.f174.results.toList (bodyOf Tryz.f174) := by kernel_rfl
theorem k174 : t174 := by
  unfold t174
  delta q5 q160 q155 q84 q22 q225 q74 q69 q236 q23 q234 q416 q414 q262 q263 q261 q194 lnZ q40 q6 q94 wiZ wyZ q192 q244 q264 q415 wbZ q71 q245 q159 q158 wrZ q95 q403 q379 q450 q482 q383 q412 q494 q417 q512
  rintro ⟨b, _⟩ hx hp
  have hp : b.length ≤ 100000000 := hp
  have hb : Bys b := sl_bys hx.1
  try dsimp +instances only [dft_int, dft_sl, dft_str]
  simp only [true_and, and_true, eq_self_iff_true, implies_true, reduceCtorEq, false_implies, true_implies, decide_eq_true_eq, decide_eq_false_iff_not, beq_self_eq_true, Bool.not_eq_true', ne_eq, Decidable.not_not, List.nil_append, List.length_singleton, List.length_cons, List.length_nil, Nat.zero_add, Nat.add_zero, Nat.mul_one, and_self, beq_iff_eq, Bool.not_true, Bool.not_false, Bool.not_eq_false', Bool.cond_false_right, Bool.and_eq_true, imp_self, Bool.not_eq_true, Bool.cond_true_left, Bool.or_eq_true]
  simp only [edft_eq]
  have hol := oneD_len b
  refine ⟨by rw [lenB]; omega, ?_⟩
  rintro ⟨⟨t, c⟩, e, _⟩ _ e1
  simp only at e1 ⊢
  have o1 : (oneD b).1.1 = t := by rw [← e1]
  have o2 : (oneD b).1.2 = c := by rw [← e1]
  have o3 : (oneD b).2 = e := by rw [← e1]
  rw [o2] at hol
  refine ⟨by decide, fun h => decQ_iff.2 (.inl ⟨by rw [o3]; exact h, o3.symm, rfl⟩), fun h => ⟨by rw [lenB]; omega, ?_⟩⟩
  subst h
  rintro ⟨l, n, e2, _⟩ _ el
  simp only at el ⊢
  have hread : ∀ m, mayN m = true → encN m = b → t = 48 ∧ l = m.map (fun a => ((49 : Int), attrB a)) ∧ e2 = 0 := fun m hm he => by
    obtain ⟨r1, r2⟩ := dec_read hm he
    rw [o2, ← el] at r2
    simp only [Prod.mk.injEq] at r2
    exact ⟨by rw [← o1, r1], r2.1, r2.2.2⟩
  refine ⟨fun h => decQ_bad o3 fun m hm he => ?_, fun h => ?_⟩
  . obtain ⟨r1, r2, r3⟩ := hread m hm he
    have := (mayN_args hm).1
    have hl := congrArg List.length r2
    rw [List.length_map] at hl
    rcases h with (h | h) | h
    . exact h r3
    . exact h r1
    . omega
  simp only [Bool.or_eq_false_iff, decide_eq_false_iff_not, Decidable.not_not] at h
  obtain ⟨⟨k1, k2⟩, k3⟩ := h
  subst k1 k2
  have hel : ∀ x ∈ l, x.2.length ≤ 100000000 := fun x hx => by
    have := (allD_len c).2 x (by rw [← el]; exact hx)
    omega
  refine ⟨fun y z => z.2.1 = l ∧ 0 ≤ y.1 ∧ y.1 ≤ l.length ∧ (∀ a ∈ (z.2.2.1 : List AttrT), mayA a = true) ∧ l.take y.1.toNat = (z.2.2.1 : List AttrT).map (fun a => ((49 : Int), attrB a)), fun y _ => ((l.length : Int) - y.1).toNat, ⟨rfl, Int.le_refl 0, by simp only; omega, (fun a ha => by cases ha), rfl⟩, ?_⟩
  rintro ⟨i, q, _⟩ ⟨⟨t2, c2, _⟩, l2, acc, v, _⟩ _ _ ⟨z1, i0, i1, hA, hz⟩
  simp only at z1 i0 i1 hA hz ⊢
  subst z1
  have hal := congrArg List.length hz
  rw [List.length_take, List.length_map] at hal
  refine ⟨fun hlt => ?_, fun hge => ?_⟩
  . have hst := take_snocA edft l2 i.toNat (by omega)
    have hmem := mem_getD edft l2 i.toNat (by omega)
    have hgi : ∀ m, mayN m = true → encN m = b → ∃ a, mayA a = true ∧ l2.getD i.toNat edft = (49, attrB a) := fun m hm he => by
      obtain ⟨_, r2, _⟩ := hread m hm he
      rw [r2] at hmem
      obtain ⟨a, ha, e⟩ := List.mem_map.1 hmem
      exact ⟨a, (mayN_args hm).2 a ha, by rw [r2]; exact e.symm⟩
    refine ⟨⟨i0, hlt⟩, by decide, by rw [lenB]; exact hel _ hmem, ?_⟩
    rintro ⟨⟨k, v2⟩, ok, _⟩ _ hq
    simp only at hq ⊢
    have hq2 := attrQ_iff.1 hq
    refine ⟨by decide, fun h => decQ_bad o3 fun m hm he => ?_, fun h => ?_⟩
    . obtain ⟨a, ha, ex⟩ := hgi m hm he
      rcases h with h | h
      . exact hq2.2 h a ha (by rw [ex])
      . exact h (by rw [ex])
    . rw [Bool.or_eq_false_iff, Bool.not_eq_false'] at h
      obtain ⟨g1, g2⟩ := hq2.1 h.1
      have h2 := dec_not h.2
      rw [wrapK (i + 1) (by omega) (by omega)]
      refine ⟨by decide, by omega, by omega, ⟨by trivial, by omega, by omega, fun a ha => ?_, ?_⟩, by omega⟩
      . rcases List.mem_append.1 ha with ha | ha
        . exact hA a ha
        . rw [List.mem_singleton.1 ha]; exact g1
      . rw [show (i + 1).toNat = i.toNat + 1 by omega, hst, hz, List.map_append, List.map_singleton, g2, ← h2]
  . rw [List.take_of_length_le (by omega)] at hz
    refine decQ_iff.2 (.inr ⟨o3, .inl ⟨rfl, mayN_of (by omega) hA, enc_sets hb o3 o1 (n := n) ?_⟩⟩)
    rw [o2, ← el, hz]
theorem h174 : c_name_Decode.ok Tryz.prog GL 174 := con_ok (H := {}) (mkEnv_ok (gl := GL) (l := [(102, conSem c_der_One), (72, conSem c_der_All), (187, conSem c_name_attr)]) (q := []) (d := []) _ tyOk (by kernel_rfl) ⟨h102.call, h72.call, h187.call, trivial⟩ trivial trivial) (by kernel_rfl) (by kernel_rfl) (Eq.mp e174 k174)
end Go.Proofs.YtiofbnlbfmbodaaGreatDoor
end
