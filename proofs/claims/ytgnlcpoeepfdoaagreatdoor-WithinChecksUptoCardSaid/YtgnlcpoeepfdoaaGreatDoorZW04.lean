/- Texts of a verified walk, led together: DerA, DerW, DerrA, DerrW, OidA, OidW. -/
import Derived.Test.YtgnlcpoeepfdoaaGreatDoorZW03
import Derived.Test.YtgnlcpoeepfdoaaGreatDoorZV09
import Derived.Test.YtgnlcpoeepfdoaaGreatDoorZV08
set_option linter.unusedVariables false
set_option linter.unusedSimpArgs false
section
namespace Go.Proofs.YtgnlcpoeepfdoaaGreatDoor
open Go Go.Vc Go.Pl Go.Proofs
def c_der_isTag : Con := { args := [.dat I64], res := [.dat .bool], pre := fun _ => True, post := fun x y => y.1 = isTagD x.1 }
def c_der_length : Con := { args := [.dat I64], res := [.own 5 U8], pre := fun x => 0 ≤ x.1 ∧ x.1 ≤ 16777215, post := fun x y => y.1 = lngD x.1 }
def c_slices_Clone_byte_byte : Con := { args := [.dat BY], res := [.dat BY], pre := fun x => lenB x.1 ≤ 1000000000, post := fun x y => y.1 = x.1 }
def c_der_head : Con := { args := [.dat BY], res := [.dat I64, .dat I64, .dat I64, .dat I64], pre := fun x => lenB x.1 ≤ 1000000000, post := fun x y => (y.1, y.2.1, y.2.2.1, y.2.2.2.1) = headK x.1 }
def c_der_Take : Con := { args := [.dat BY], res := [.dat ET, .dat I64, .dat I64], pre := fun x => lenB x.1 ≤ 1000000000, post := fun x y => (y.1, y.2.1, y.2.2.1) = takeD x.1 }
def c_der_One : Con := { args := [.dat BY], res := [.dat ET, .dat I64], pre := fun x => lenB x.1 ≤ 1000000000, post := fun x y => (y.1, y.2.1) = oneD x.1 }
def c_der_Size : Con := { args := [.dat I64], res := [.dat I64], pre := fun _ => True, post := fun x y => y.1 = sizeD x.1 }
def c_der_All : Con := { args := [.dat BY], res := [.own 129 ET, .dat I64, .dat I64], pre := fun x => lenB x.1 ≤ 1000000000, post := fun x y => (y.1, y.2.1, y.2.2.1) = allD x.1 }
end Go.Proofs.YtgnlcpoeepfdoaaGreatDoor
end
section
namespace Go.Proofs.YtgnlcpoeepfdoaaGreatDoor
open Go Go.Vc Go.Pl Go.Proofs
set_option linter.unusedVariables false
set_option linter.unusedSimpArgs false
abbrev q24 := (Int × Int × Int × Int × Unit)
abbrev q25 := ((Int × List Int) × Int × Int × Unit)
abbrev q471 (p0 : q1) := (bif decide (q557 <= p0.1) then decide (p0.1 <= (255 : Int)) else false)
abbrev q208 (p0 : q1) := ((q471 p0) = true -> ((q471 p0) == true) = true /\ True)
abbrev q562 (p0 : q6) := (wrZ (List.getD p0.1 (1 : Nat) q585) - (128 : Int))
abbrev q518 (p0 : q6) := (bif decide (wrZ (q562 p0) = q557) then true else decide ((3 : Int) < wrZ (q562 p0)))
abbrev q479 (p0 : q6) := ((2 : Int) < (lnZ p0.1))
abbrev q209 (p0 : q6) := (((q518 p0) == false && (q518 p0) == false) = true -> decide (q479 p0) = true -> ((q518 p0) == false && (q518 p0) == false && decide (q479 p0) == true) = true /\
  True)
abbrev q210 (p0 : q6) := ((q518 p0) == false && (q518 p0) == false && decide (q479 p0) == true)
abbrev q472 (p0 : q6) := ((bif decide (wrZ (q562 p0) = q557) then true else decide ((3 : Int) < wrZ (q562 p0))) == false)
abbrev q211 (p0 : q6) := ((q518 p0) = false -> (q472 p0) = true /\ True)
abbrev q212 (p0 : q6) := ((q518 p0) == false && (q518 p0) == false)
abbrev q519 (p0 : q6) := (wrZ (q562 p0) = q557)
abbrev q520 (p0 : q6) := ((3 : Int) < wrZ (q562 p0))
abbrev q213 (p0 : q6) := (bif bif decide (q519 p0) then true else decide (q520 p0) then true else bif decide (q479 p0) then decide (List.getD p0.1 (2 : Nat) q501 = q452) else false)
abbrev q561 (p0 : q6) := (Int.toNat (wrZ ((2 : Int) + wrZ (wrZ (List.getD p0.1 (1 : Nat) q585) - (128 : Int)))))
abbrev q521 (p0 : q6) := (List.drop (2 : Nat) (List.take (q561 p0) p0.1))
abbrev q214 (p0 : q7) (p1 : q6) := (↑(BitVec.toNat (BitVec.ofInt (64 : Nat) (wrZ (p0.2.1 * q500 ^ q554)) ||| BitVec.ofInt (64 : Nat) (wrZ (List.getD (q521 p1) (Int.toNat p0.1) q501)))) :
  Int)
abbrev q215 (p0 : q6) := ((q518 p0) = false -> True)
abbrev q216 (p0 : q6) := (bif decide (q519 p0) then true else decide (q520 p0))
abbrev q217 (p0 : q7) (p1 : q6) := (p0.1 < (lnZ (q521 p1)))
abbrev q218 (p0 : q6) := (lnZ (q521 p0))
abbrev q219 (p0 : q6) := (List.take (q561 p0) p0.1)
abbrev q220 (p0 : q6) := (decide (q519 p0) == false)
abbrev q221 (p0 : q6) := ((lnZ p0.1) < wrZ ((2 : Int) + wrZ (wrZ (List.getD p0.1 (1 : Nat) q585) - (128 : Int))))
abbrev q222 (p0 : q6) := (wrZ (q562 p0) = q452)
abbrev q223 (p0 : q6) := (q500 + wrZ (q562 p0))
abbrev q522 (p0 : q6) := (List.getD p0.1 q556 q585)
abbrev q224 (p0 : q6) := (wrZ (q522 p0) - (128 : Int))
abbrev q225 (p0 : q6) := (List.getD p0.1 q477 q501)
abbrev q226 (p0 : q6) := (List.getD p0.1 q556 q501)
abbrev q227 (p0 : q6) := (q500 < (lnZ p0.1))
abbrev q473 (p0 : q24) := (p0.2.2.2.1 = q557)
abbrev q228 (p0 : q24) := (decide (q473 p0) = true -> (decide (q473 p0) == true) = true /\ (decide (q473 p0) == true) = true /\ True)
abbrev q229 (p0 : q24) := (wiZ p0.1 /\ wiZ p0.2.1 /\ wiZ p0.2.2.1 /\ wiZ p0.2.2.2.1 /\ True)
abbrev q474 (p0 : q25) := (decide (p0.2.2.1 = q557) == true)
abbrev q230 (p0 : q25) := (decide (p0.2.2.1 = q452) = true -> (q474 p0) = true /\ (q474 p0) = true /\ True)
abbrev q478 := (Kd.pair q566 (Kd.sl (Kd.int IntKind.u8)))
abbrev q231 (p0 : q25) := (Kd.wf q478 p0.1 /\ wiZ p0.2.1 /\ wiZ p0.2.2.1 /\ True)
abbrev q232 (p0 : q25) := (p0.2.2.1 = q452)
abbrev q476 (p0 : q1) (p1 : q1) (p2 : q25) := (wrZ (p0.1 + p1.1) + (lnZ p2.1.2))
abbrev q523 (p0 : q25) (p1 : q6) (p2 : Int × Unit -> Unit × (Int × Unit) × (List Int × Unit) × List (Int × List Int) × Unit -> Prop) (p3 : q1) (p4 : Unit × (Int × Unit) × (List Int × Unit)
  × List (Int × List Int) × Unit) (p5 : Int × Unit -> Unit × (Int × Unit) × (List Int × Unit) × List (Int × List Int) × Unit -> Nat) := ((True /\ (∀ (y_2 : q1), (wiZ y_2.1 /\ True) -> y_2.1 =
  sizeD (lnZ p0.1.2) -> (((q557 = q557 /\ q557 = q557 /\ Value.slice none q565 q565 = Value.slice none q565 q565 /\ p1.1 = p1.1 /\ p2 (wrZ (p3.1 + p0.2.1), ()) ((), (wrZ (wrZ (p3.1 + y_2.1) +
  (lnZ p0.1.2)), ()), (p4.2.2.1.1, ()), p4.2.2.2.1 ++ [(p0.1.1, p0.1.2)], ()) /\ p5 (wrZ (p3.1 + p0.2.1), ()) ((), (wrZ (wrZ (p3.1 + y_2.1) + (lnZ p0.1.2)), ()), (p4.2.2.1.1, ()), p4.2.2.2.1
  ++ [(p0.1.1, p0.1.2)], ()) < p5 p3 p4) /\ True) /\ True) /\ True) /\ True) /\ True)
abbrev q233 (p0 : q25) (p1 : q6) (p2 : Int × Unit -> Unit × (Int × Unit) × (List Int × Unit) × List (Int × List Int) × Unit -> Prop) (p3 : q1) (p4 : Unit × (Int × Unit) × (List Int × Unit)
  × List (Int × List Int) × Unit) (p5 : Int × Unit -> Unit × (Int × Unit) × (List Int × Unit) × List (Int × List Int) × Unit -> Nat) := (((True /\ (∀ (y_2 : q1), (wiZ y_2.1 /\ True) -> y_2.1
  = sizeD (lnZ p0.1.2) -> ((((q452 = q452 /\ q452 = q452 /\ Value.slice none q477 q477 = Value.slice none q477 q477 /\ p1.1 = p1.1 /\ p2 (wrZ (p3.1 + p0.2.1), ()) ((), (wrZ (q476 p3 y_2 p0),
  ()), (p4.2.2.1.1, ()), p4.2.2.2.1 ++ [(p0.1.1, p0.1.2)], ()) /\ p5 (wrZ (p3.1 + p0.2.1), ()) ((), (wrZ (q476 p3 y_2 p0), ()), (p4.2.2.1.1, ()), p4.2.2.2.1 ++ [(p0.1.1, p0.1.2)], ()) < p5 p3
  p4) /\ True) /\ True) /\ True) /\ ((((q452 = q452 /\ q452 = q452 /\ Value.slice none q477 q477 = Value.slice none q477 q477 /\ p1.1 = p1.1 /\ p2 (wrZ (p3.1 + p0.2.1), ()) ((), (wrZ (q476 p3
  y_2 p0), ()), (p4.2.2.1.1, ()), p4.2.2.2.1 ++ [(p0.1.1, p0.1.2)], ()) /\ p5 (wrZ (p3.1 + p0.2.1), ()) ((), (wrZ (q476 p3 y_2 p0), ()), (p4.2.2.1.1, ()), p4.2.2.2.1 ++ [(p0.1.1, p0.1.2)],
  ()) < p5 p3 p4) /\ True) /\ True) /\ True) /\ True) /\ True) /\ (q523 p0 p1 p2 p3 p4 p5) /\ True) /\ ((q523 p0 p1 p2 p3 p4 p5) /\ True) /\ True)
abbrev q234 (p0 : Unit × (Int × Unit) × (List Int × Unit) × List (Int × List Int) × Unit) (p1 : q6) := (decide (p0.2.1.1 = (lnZ p1.1)) = false -> (q452 <= p0.2.1.1 /\ p0.2.1.1 <= (lnZ
  p1.1)) /\ lenB (List.drop (Int.toNat p0.2.1.1) p1.1) <= (1000000000 : Nat) /\ (∀ (y : q25), (Kd.wf q478 y.1 /\ wiZ y.2.1 /\ wiZ y.2.2.1 /\ True) -> (y.1, y.2.1, y.2.2.1) = takeD (List.drop
  (Int.toNat p0.2.1.1) p1.1) -> (2 : Nat) <= (65536 : Nat) /\ ([], p0.2.1.1, y.2.2.1) = allD p1.1) /\ True)
abbrev q235 := (Kd.sl q478)
abbrev q236 := (Int × List Int)
abbrev q475 (p0 : q25) (p1 : q6) (p2 : Int × Unit -> Unit × (Int × Unit) × q161 × List q236 × Unit -> Prop) (p3 : q1) (p4 : Unit × (Int × Unit) × q161 × List q236 × Unit) (p5 : Int × Unit
  -> Unit × (Int × Unit) × q161 × List q236 × Unit -> Nat) := ((True /\ (∀ (y_2 : q1), (wiZ y_2.1 /\ True) -> y_2.1 = sizeD (lnZ p0.1.2) -> (((q557 = q557 /\ q557 = q557 /\ Value.slice none
  q565 q565 = Value.slice none q565 q565 /\ p1.1 = p1.1 /\ p2 (wrZ (p3.1 + p0.2.1), ()) ((), (wrZ (wrZ (p3.1 + y_2.1) + (lnZ p0.1.2)), ()), (p4.2.2.1.1, ()), p4.2.2.2.1 ++ [(p0.1.1, p0.1.2)],
  ()) /\ p5 (wrZ (p3.1 + p0.2.1), ()) ((), (wrZ (wrZ (p3.1 + y_2.1) + (lnZ p0.1.2)), ()), (p4.2.2.1.1, ()), p4.2.2.2.1 ++ [(p0.1.1, p0.1.2)], ()) < p5 p3 p4) /\ True) /\ True) /\ True) /\
  True) /\ True)
def t154 : Prop :=
  ∀ (x : q1), (q52 x) -> True -> (decide (q55 x) = true -> True) /\ (decide (q55 x) = true -> (decide (q55 x) == true) = true /\ True) /\ (decide (q55 x) = true -> (decide (q55 x) == true) =
  true) /\ ((q471 x) = true -> True) /\ (q208 x) /\ (q208 x) /\ ((q471 x) = true -> ((q471 x) == true) = true) /\ (bif bif decide (q55 x) then decide (x.1 <= (255 : Int)) else false then
  decide (wrZ (↑(BitVec.toNat (BitVec.ofInt (64 : Nat) x.1 &&& BitVec.ofInt (64 : Nat) (31 : Int))) : Int) ≠ (31 : Int)) else false) = isTagD x.1
theorem e154 : t154 = Con.vc c_der_isTag GL (mkEnv ty [] [] [] [0, 2]) {} Tryz.f154.ntmps Tryz.f154.results.toList (bodyOf Tryz.f154) := by kernel_rfl
theorem k154 : t154 := by
  unfold t154
  delta q1 q52 q55 q471 q208 wrZ wiZ q452 q557
  rintro ⟨t, _⟩ hx hp
  try dsimp +instances only [dft_int, dft_sl, dft_str]
  simp only [true_and, and_true, eq_self_iff_true, implies_true, reduceCtorEq, false_implies, true_implies, decide_eq_true_eq, decide_eq_false_iff_not, beq_self_eq_true, Bool.not_eq_true', ne_eq, Decidable.not_not, List.nil_append, List.length_singleton, List.length_cons, List.length_nil, Nat.zero_add, Nat.add_zero, Nat.mul_one, and_self, beq_iff_eq, Bool.not_true, Bool.not_false, Bool.not_eq_false', Bool.cond_false_right, Bool.and_eq_true, imp_self, Bool.not_eq_true, Bool.cond_true_left, Bool.or_eq_true]
  exact isTag_eq t
theorem h154 : c_der_isTag.ok Tryz.prog GL 154 := con_ok (H := {}) (mkEnv_ok (gl := GL) (l := []) (q := []) (d := []) _ tyOk (by kernel_rfl) trivial trivial trivial) (by kernel_rfl) (by kernel_rfl) (Eq.mp e154 k154)
def t143 : Prop :=
  ∀ (x : q1), (q52 x) -> q56 <= x.1 /\ x.1 <= (16777215 : Int) -> (decide (x.1 < q115) = true -> [IntKind.wrap IntKind.u8 x.1] = lngD x.1) /\ (decide (x.1 < q115) = false -> (decide (x.1 <
  (256 : Int)) = true -> [(129 : Int), IntKind.wrap IntKind.u8 x.1] = lngD x.1) /\ (decide (x.1 < (256 : Int)) = false -> (decide (x.1 < (65536 : Int)) = true -> q56 <= q168 /\ [(130 : Int),
  IntKind.wrap IntKind.u8 (Int.fdiv x.1 (q94 ^ q554)), IntKind.wrap IntKind.u8 x.1] = lngD x.1) /\ (decide (x.1 < (65536 : Int)) = false -> q56 <= (16 : Int) /\ q56 <= q168 /\ [(131 : Int),
  IntKind.wrap IntKind.u8 (Int.fdiv x.1 (q94 ^ (16 : Nat))), IntKind.wrap IntKind.u8 (Int.fdiv x.1 (q94 ^ q554)), IntKind.wrap IntKind.u8 x.1] = lngD x.1)))
theorem e143 : t143 = Con.vc c_der_length GL (mkEnv ty [] [] [] [0, 2, 3, 9, 15]) {} Tryz.f143.ntmps Tryz.f143.results.toList (bodyOf Tryz.f143) := by kernel_rfl
theorem k143 : t143 := by
  unfold t143
  delta q1 q52 q56 q115 q168 q94 q554 wiZ
  rintro ⟨n, _⟩ hx hp
  obtain ⟨h0, h1⟩ := hp
  simp only at h0 h1
  try dsimp +instances only [dft_int, dft_sl, dft_str]
  simp only [true_and, and_true, eq_self_iff_true, implies_true, reduceCtorEq, false_implies, true_implies, decide_eq_true_eq, decide_eq_false_iff_not, beq_self_eq_true, Bool.not_eq_true', ne_eq, Decidable.not_not, List.nil_append, List.length_singleton, List.length_cons, List.length_nil, Nat.zero_add, Nat.add_zero, Nat.mul_one, and_self, beq_iff_eq, Bool.not_true, Bool.not_false, Bool.not_eq_false', Bool.cond_false_right, Bool.and_eq_true, imp_self, Bool.not_eq_true, Bool.cond_true_left, Bool.or_eq_true]
  have e8 := (fdiv_pow h0).1
  have e16 := (fdiv_pow h0).2
  rw [e8, e16, wrap_u8m, wrap_u8m, wrap_u8m]
  refine ⟨fun h => ?_, fun h => ⟨fun h2 => ?_, fun h2 => ⟨fun h3 => ⟨by decide, ?_⟩, fun h3 => ⟨by decide, by decide, ?_⟩⟩⟩⟩
  . rw [lngD, if_pos h, show n % 256 = n by omega]
  . rw [lngD, if_neg h, if_pos h2, show n % 256 = n by omega]
  . rw [lngD, if_neg h, if_neg h2, if_pos h3, show n / 256 % 256 = n / 256 by omega]
  . rw [lngD, if_neg h, if_neg h2, if_neg h3, show n / 65536 % 256 = n / 65536 by omega]
theorem h143 : c_der_length.ok Tryz.prog GL 143 := con_ok (H := {}) (mkEnv_ok (gl := GL) (l := []) (q := []) (d := []) _ tyOk (by kernel_rfl) trivial trivial trivial) (by kernel_rfl) (by kernel_rfl) (Eq.mp e143 k143)
def t141 : Prop :=
  ∀ (x : q6), (q165 x) -> lenB x.1 <= q103 -> ∀ (b : Bool), (b = true -> x.1 = []) -> (b = true -> [] = x.1) /\ (b = false -> q91 < q59 /\ (q91 + List.length x.1) * q59 <= q152 /\ q91 +
  List.length x.1 <= q151 /\ [] ++ x.1 = x.1)
theorem e141 : t141 = Con.vc c_slices_Clone_byte_byte GL (mkEnv ty [] [] [] [0, 2, 4]) {} Tryz.f141.ntmps Tryz.f141.results.toList (bodyOf Tryz.f141) := by kernel_rfl
theorem k141 : t141 := by
  unfold t141
  delta q6 q165 q103 q91 q59 q152 q151 wyZ
  rintro ⟨l, _⟩ hx hp
  have hp : l.length ≤ 1000000000 := hp
  try dsimp +instances only [dft_int, dft_sl, dft_str]
  simp only [true_and, and_true, eq_self_iff_true, implies_true, reduceCtorEq, false_implies, true_implies, decide_eq_true_eq, decide_eq_false_iff_not, beq_self_eq_true, Bool.not_eq_true', ne_eq, Decidable.not_not, List.nil_append, List.length_singleton, List.length_cons, List.length_nil, Nat.zero_add, Nat.add_zero, Nat.mul_one, and_self, beq_iff_eq, Bool.not_true, Bool.not_false, Bool.not_eq_false', Bool.cond_false_right, Bool.and_eq_true, imp_self, Bool.not_eq_true, Bool.cond_true_left, Bool.or_eq_true]
  intro b hb
  exact ⟨fun h => (hb h).symm, fun _ => ⟨by decide, by omega, by omega⟩⟩
theorem h141 : c_slices_Clone_byte_byte.ok Tryz.prog GL 141 := con_ok (H := {}) (mkEnv_ok (gl := GL) (l := []) (q := []) (d := []) _ tyOk (by kernel_rfl) trivial trivial trivial) (by kernel_rfl) (by kernel_rfl) (Eq.mp e141 k141)
def t140 : Prop :=
  ∀ (x : q6), (q165 x) -> lenB x.1 <= q103 -> (decide ((lnZ x.1) = q56) = true -> (q56, q56, q56, (10 : Int)) = headK x.1) /\ (decide ((lnZ x.1) = q56) = false -> (q84 x) /\ True /\ (∀ (y :
  q4), (q67 y) -> y.1 = isTagD (wrZ (q225 x)) -> ((!y.1) = true -> (q56, q56, q56, (11 : Int)) = headK x.1) /\ ((!y.1) = false -> (decide ((lnZ x.1) = q92) = true -> (q56, q56, q56, (10 :
  Int)) = headK x.1) /\ (decide ((lnZ x.1) = q92) = false -> (q85 x) /\ (decide (wrZ (q224 x) < q56) = true -> (q84 x) /\ (q85 x) /\ (wrZ (q225 x), q94, wrZ (q226 x), q56) = headK x.1) /\
  (decide (wrZ (q224 x) < q56) = false -> (decide (q222 x) = false -> True) /\ (decide (q222 x) = false -> (q220 x) = true /\ True) /\ (decide (q222 x) = false -> (q220 x) = true) /\ (q215 x)
  /\ (q211 x) /\ (q211 x) /\ (q215 x) /\ ((q212 x) = true -> decide (q227 x) = true -> True) /\ ((q212 x) = true -> decide (q227 x) = true -> (q210 x) = true /\ (q56 <= q94 /\ q94 < (lnZ
  x.1)) /\ True) /\ (q209 x) /\ (q209 x) /\ ((q216 x) = false -> (q212 x) = true /\ (decide (q227 x) = true -> (q210 x) = true) /\ True) /\ ((q216 x) = false -> (q472 x) = true) /\ ((q213 x)
  = true -> (q56, q56, q56, q90) = headK x.1) /\ ((q213 x) = false -> (decide (q221 x) = true -> (q56, q56, q56, (10 : Int)) = headK x.1) /\ (decide (q221 x) = false -> (q56 <= q94 /\ q94 <=
  wrZ (q223 x) /\ wrZ (q223 x) <= (lnZ x.1)) /\ ∃ (I : q11), ∃ (μ : q12), ((q218 x) = (q218 x) /\ List.drop q93 (q219 x) = List.drop q93 (q219 x) /\ Value.bool false = Value.bool false /\
  Value.bool false = Value.bool false /\ Value.bool false = Value.bool false /\ wrZ (q224 x) = wrZ (q224 x) /\ Value.bool false = Value.bool false /\ Value.bool false = Value.bool false /\
  Value.bool false = Value.bool false /\ q56 = q56 /\ q56 = q56 /\ q56 = q56 /\ x.1 = x.1 /\ I (q56, q56, ()) ()) /\ ∀ (y : q7) (z : Unit), (q113 y) -> True -> I y z -> (decide (q217 y x) =
  true -> (q56 <= y.1 /\ y.1 < (q218 x)) /\ q56 <= q168 /\ (q218 x) = (q218 x) /\ List.drop q93 (q219 x) = List.drop q93 (q219 x) /\ Value.bool false = Value.bool false /\ Value.bool false =
  Value.bool false /\ Value.bool false = Value.bool false /\ wrZ (q224 x) = wrZ (q224 x) /\ Value.bool false = Value.bool false /\ Value.bool false = Value.bool false /\ Value.bool false =
  Value.bool false /\ q56 = q56 /\ q56 = q56 /\ q56 = q56 /\ x.1 = x.1 /\ I (wrZ (q114 y), wrZ (q214 y x), ()) () /\ μ (wrZ (q114 y), wrZ (q214 y x), ()) () < μ y z) /\ (decide (q217 y x) =
  false -> (decide (y.2.1 < q115) = true -> (q56, q56, q56, q90) = headK x.1) /\ (decide (y.2.1 < q115) = false -> (q84 x) /\ (wrZ (q225 x), wrZ (q223 x), y.2.1, q56) = headK x.1)))))))) /\
  True)
theorem e140 : t140 = Con.vc c_der_head GL (mkEnv ty [(154, conSem c_der_isTag)] [] [] [0, 2, 3, 4, 5, 6, 8, 9, 13, 20, 29, 40, 58, 67, 68, 69, 70, 80]) {} Tryz.f140.ntmps Tryz.f140.results.toList (bodyOf Tryz.f140) := by kernel_rfl
theorem k140 : t140 := by
  unfold t140
  delta q6 q165 q103 lnZ q56 q84 q4 q67 wrZ q225 q92 q85 q224 q94 q226 q222 q220 q215 q211 q212 q227 q210 q209 q216 q472 q213 q90 q221 q223 q11 q12 q218 q93 q219 q7 q113 q217 q168 q114 q214 q115 wyZ q452 wbZ q477 q501 q491 q522 q556 q562 q519 q518 q500 q479 q520 q557 q585 q521 q561 wiZ q554 q553
  rintro ⟨b, _⟩ hx hp
  have hp : b.length ≤ 1000000000 := hp
  have hb : Bys b := sl_bys hx.1
  try dsimp +instances only [dft_int, dft_sl, dft_str]
  simp only [true_and, and_true, eq_self_iff_true, implies_true, reduceCtorEq, false_implies, true_implies, decide_eq_true_eq, decide_eq_false_iff_not, beq_self_eq_true, Bool.not_eq_true', ne_eq, Decidable.not_not, List.nil_append, List.length_singleton, List.length_cons, List.length_nil, Nat.zero_add, Nat.add_zero, Nat.mul_one, and_self, beq_iff_eq, Bool.not_true, Bool.not_false, Bool.not_eq_false', Bool.cond_false_right, Bool.and_eq_true, imp_self, Bool.not_eq_true, Bool.cond_true_left, Bool.or_eq_true]
  have b0 := bys_get hb 0
  have b1 := bys_get hb 1
  rw [wrapK (b.getD 0 0) (by omega) (by omega), wrapK (b.getD 1 0) (by omega) (by omega), wrapK (b.getD 1 0 - 128) (by omega) (by omega), wrapK (2 + (b.getD 1 0 - 128)) (by omega) (by omega)]
  have hnil : b = [] ↔ (b.length : Int) = 0 := ⟨fun h => by rw [h]; rfl, fun h => List.eq_nil_of_length_eq_zero (by omega)⟩
  unfold headK
  refine ⟨fun h => by rw [if_pos (hnil.2 h)], fun h => ⟨⟨by decide, by omega⟩, ?_⟩⟩
  rw [if_neg (fun e => h (hnil.1 e))]
  rintro ⟨q, _⟩ _ eq
  simp only at eq ⊢
  subst eq
  refine ⟨fun h1 => by rw [if_pos h1], fun h1 => ?_⟩
  rw [if_neg (by rw [h1]; decide)]
  refine ⟨fun h2 => by rw [if_pos (by omega)], fun h2 => ⟨⟨by decide, by omega⟩, fun h3 => ⟨⟨by decide, by omega⟩, ⟨by decide, by omega⟩, ?_⟩, fun h3 => ?_⟩⟩
  . rw [if_neg (by omega), if_pos (by omega)]
  rw [if_neg (by omega), if_neg (by omega)]
  refine ⟨fun g1 g2 => ⟨⟨g1, g2⟩, by decide, by omega⟩, fun g1 g2 => ⟨g1, g2⟩, fun g1 g2 => ⟨g1, g2⟩, fun g1 => ⟨g1, fun g2 => ⟨g1, g2⟩⟩, fun h4 => by rw [if_pos (by omega)], fun h4 => ?_⟩
  have h4' : ¬ (b.getD 1 0 = 128 ∨ 131 < b.getD 1 0 ∨ (2 < b.length ∧ b.getD 2 0 = 0)) := by
    simp only [Bool.or_eq_false_iff, Bool.and_eq_false_iff, decide_eq_false_iff_not] at h4
    omega
  rw [if_neg h4']
  refine ⟨fun h5 => by rw [if_pos h5], fun h5 => ⟨⟨by decide, by omega, by omega⟩, ?_⟩⟩
  rw [if_neg h5]
  have hsl : (b.take (2 + (b.getD 1 0 - 128)).toNat).drop 2 = (b.drop 2).take (b.getD 1 0 - 128).toNat := by
    rw [List.drop_take]
    congr 1
    omega
  rw [hsl]
  have hbl : Bys ((b.drop 2).take (b.getD 1 0 - 128).toNat) := bys_take (bys_drop hb 2) _
  have hll : ((b.drop 2).take (b.getD 1 0 - 128).toNat).length ≤ 3 := by rw [List.length_take]; omega
  generalize (b.drop 2).take (b.getD 1 0 - 128).toNat = l at hbl hll
  refine ⟨fun y _ => 0 ≤ y.1 ∧ y.1 ≤ l.length ∧ y.2.1 = numB (l.take y.1.toNat), fun y _ => ((l.length : Int) - y.1).toNat, ⟨Int.le_refl 0, by simp only; omega, rfl⟩, ?_⟩
  rintro ⟨i, n, _⟩ _ _ ⟨i0, i1, en⟩
  simp only at i0 i1 en ⊢
  refine ⟨fun hlt => ⟨⟨i0, hlt⟩, by decide, ?_⟩, fun hge => ?_⟩
  . have hnb := num_bound hbl (j := i.toNat) (by omega)
    rw [← en] at hnb
    rw [wrapK (i + 1) (by omega) (by omega), or8 (bys_get hbl _) hnb]
    refine ⟨⟨by omega, by omega, ?_⟩, by omega⟩
    rw [show (i + 1).toNat = i.toNat + 1 by omega, take_snoc l _ (by omega), num_snoc, en]
  . rw [List.take_of_length_le (by omega)] at en
    rw [en]
    exact ⟨fun h6 => by rw [if_pos h6], fun h6 => ⟨⟨by decide, by omega⟩, by rw [if_neg h6]⟩⟩
theorem h140 : c_der_head.ok Tryz.prog GL 140 := con_ok (H := {}) (mkEnv_ok (gl := GL) (l := [(154, conSem c_der_isTag)]) (q := []) (d := []) _ tyOk (by kernel_rfl) ⟨h154.call, trivial⟩ trivial trivial) (by kernel_rfl) (by kernel_rfl) (Eq.mp e140 k140)
def t129 : Prop :=
  ∀ (x : q6), (q165 x) -> lenB x.1 <= q103 -> q93 <= q89 /\ lenB x.1 <= q103 /\ (∀ (y : q24), (q229 y) -> (y.1, y.2.1, y.2.2.1, y.2.2.2.1) = headK x.1 -> (decide (q473 y) = true -> True) /\
  (decide (q473 y) = true -> (decide (q473 y) == true) = true /\ True) /\ (decide (q473 y) = true -> True) /\ (q228 y) /\ (decide (q473 y) = true -> True) /\ (q228 y) /\ (decide (q473 y) =
  true -> (decide (q473 y) == true) = true) /\ ((bif decide (q473 y) then decide (wrZ ((lnZ x.1) - y.2.1) < y.2.2.1) else false) = true -> (decide ((10 : Int) ≠ q56) = true -> ((q56, []),
  q56, (10 : Int)) = takeD x.1) /\ (decide ((10 : Int) ≠ q56) = false -> (q56 <= y.2.1 /\ y.2.1 <= wrZ (y.2.1 + y.2.2.1) /\ wrZ (y.2.1 + y.2.2.1) <= (lnZ x.1)) /\ lenB (List.drop (Int.toNat
  y.2.1) (List.take (Int.toNat (wrZ (y.2.1 + y.2.2.1))) x.1)) <= q103 /\ (∀ (y_1 : q6), (q165 y_1) -> y_1.1 = List.drop (Int.toNat y.2.1) (List.take (Int.toNat (wrZ (y.2.1 + y.2.2.1))) x.1)
  -> ((y.1, y_1.1), wrZ (y.2.1 + y.2.2.1), q56) = takeD x.1) /\ True)) /\ ((bif decide (q473 y) then decide (wrZ ((lnZ x.1) - y.2.1) < y.2.2.1) else false) = false -> (decide (y.2.2.2.1 ≠
  q56) = true -> ((q56, []), q56, y.2.2.2.1) = takeD x.1) /\ (decide (y.2.2.2.1 ≠ q56) = false -> (q56 <= y.2.1 /\ y.2.1 <= wrZ (y.2.1 + y.2.2.1) /\ wrZ (y.2.1 + y.2.2.1) <= (lnZ x.1)) /\
  lenB (List.drop (Int.toNat y.2.1) (List.take (Int.toNat (wrZ (y.2.1 + y.2.2.1))) x.1)) <= q103 /\ (∀ (y_1 : q6), (q165 y_1) -> y_1.1 = List.drop (Int.toNat y.2.1) (List.take (Int.toNat (wrZ
  (y.2.1 + y.2.2.1))) x.1) -> ((y.1, y_1.1), wrZ (y.2.1 + y.2.2.1), q56) = takeD x.1) /\ True))) /\ True
theorem e129 : t129 = Con.vc c_der_Take GL (mkEnv ty [(140, conSem c_der_head), (141, conSem c_slices_Clone_byte_byte)] [] [] [0, 2, 3, 4, 5, 6, 7, 8, 25, 27]) {} Tryz.f129.ntmps Tryz.f129.results.toList (bodyOf Tryz.f129) := by kernel_rfl
theorem k129 : t129 := by
  unfold t129
  delta q6 q165 q103 q93 q89 q24 q229 q473 q228 wrZ lnZ q56 wyZ wiZ q557
  rintro ⟨b, _⟩ hx hp
  have hp : b.length ≤ 1000000000 := hp
  have hb : Bys b := sl_bys hx.1
  try dsimp +instances only [dft_int, dft_sl, dft_str]
  simp only [true_and, and_true, eq_self_iff_true, implies_true, reduceCtorEq, false_implies, true_implies, decide_eq_true_eq, decide_eq_false_iff_not, beq_self_eq_true, Bool.not_eq_true', ne_eq, Decidable.not_not, List.nil_append, List.length_singleton, List.length_cons, List.length_nil, Nat.zero_add, Nat.add_zero, Nat.mul_one, and_self, beq_iff_eq, Bool.not_true, Bool.not_false, Bool.not_eq_false', Bool.cond_false_right, Bool.and_eq_true, imp_self, Bool.not_eq_true, Bool.cond_true_left, Bool.or_eq_true]
  refine ⟨by decide, hp, ?_⟩
  rintro ⟨t, f, n, e, _⟩ _ eh
  simp only at eh ⊢
  have k1 : (headK b).1 = t := by rw [← eh]
  have k2 : (headK b).2.1 = f := by rw [← eh]
  have k3 : (headK b).2.2.1 = n := by rw [← eh]
  have k4 : (headK b).2.2.2 = e := by rw [← eh]
  have hT : takeD b = if e ≠ 0 then ((0, []), 0, e) else if (b.length : Int) - f < n then ((0, []), 0, 10) else ((t, (b.drop f.toNat).take n.toNat), f + n, 0) := by rw [takeD, k1, k2, k3, k4]
  have hok : e = 0 → 2 ≤ f ∧ f ≤ 5 ∧ f ≤ b.length ∧ 0 ≤ n ∧ n ≤ 16777215 := fun h => by
    have := head_ok hb (by rw [k4]; exact h)
    rw [k2, k3] at this
    exact ⟨this.1, this.2.1, this.2.2.1, this.2.2.2.1, this.2.2.2.2.1⟩
  refine ⟨fun h => ⟨fun _ => ?_, fun h10 => by cases h10⟩, fun h => ⟨fun he => by rw [hT, if_pos he], fun he => ?_⟩⟩
  . obtain ⟨h1, h2⟩ := h
    have := hok h1
    rw [wrapK _ (by omega) (by omega)] at h2
    rw [hT, if_neg (by omega), if_pos h2]
  . have hk := hok he
    simp only [Bool.and_eq_false_iff, decide_eq_false_iff_not] at h
    have h := h.resolve_left (fun h => h he)
    rw [wrapK _ (by omega) (by omega)] at h
    rw [wrapK (f + n) (by omega) (by omega)]
    refine ⟨⟨by omega, by omega, by omega⟩, by rw [lenB, List.length_drop, List.length_take]; omega, ?_⟩
    rintro ⟨c, _⟩ _ ec
    simp only at ec ⊢
    rw [hT, if_neg (by omega), if_neg h, ec, List.drop_take, show (f + n).toNat - f.toNat = n.toNat by omega]
theorem h129 : c_der_Take.ok Tryz.prog GL 129 := con_ok (H := {}) (mkEnv_ok (gl := GL) (l := [(140, conSem c_der_head), (141, conSem c_slices_Clone_byte_byte)]) (q := []) (d := []) _ tyOk (by kernel_rfl) ⟨h140.call, h141.call, trivial⟩ trivial trivial) (by kernel_rfl) (by kernel_rfl) (Eq.mp e129 k129)
def t112 : Prop :=
  ∀ (x : q6), (q165 x) -> lenB x.1 <= q103 -> q93 <= q89 /\ lenB x.1 <= q103 /\ (∀ (y : q25), (q231 y) -> (y.1, y.2.1, y.2.2.1) = takeD x.1 -> q93 <= q89 /\ (decide (q232 y) = true -> True)
  /\ (decide (q232 y) = true -> True) /\ (decide (q232 y) = true -> (q474 y) = true /\ True) /\ (q230 y) /\ (decide (q232 y) = true -> (q474 y) = true) /\ ((bif decide (q232 y) then decide
  (y.2.1 < (lnZ x.1)) else false) = true -> ((q56, []), (13 : Int)) = oneD x.1) /\ ((bif decide (q232 y) then decide (y.2.1 < (lnZ x.1)) else false) = false -> ((y.1.1, y.1.2), y.2.2.1) =
  oneD x.1)) /\ True
theorem e112 : t112 = Con.vc c_der_One GL (mkEnv ty [(129, conSem c_der_Take)] [] [] [0, 2, 3, 4, 5, 6, 20]) {} Tryz.f112.ntmps Tryz.f112.results.toList (bodyOf Tryz.f112) := by kernel_rfl
theorem k112 : t112 := by
  unfold t112
  delta q6 q165 q103 q93 q89 q25 q231 q232 q474 q230 lnZ q56 wyZ q478 wiZ q452 q557 q566
  rintro ⟨b, _⟩ hx hp
  have hp : b.length ≤ 1000000000 := hp
  try dsimp +instances only [dft_int, dft_sl, dft_str]
  simp only [true_and, and_true, eq_self_iff_true, implies_true, reduceCtorEq, false_implies, true_implies, decide_eq_true_eq, decide_eq_false_iff_not, beq_self_eq_true, Bool.not_eq_true', ne_eq, Decidable.not_not, List.nil_append, List.length_singleton, List.length_cons, List.length_nil, Nat.zero_add, Nat.add_zero, Nat.mul_one, and_self, beq_iff_eq, Bool.not_true, Bool.not_false, Bool.not_eq_false', Bool.cond_false_right, Bool.and_eq_true, imp_self, Bool.not_eq_true, Bool.cond_true_left, Bool.or_eq_true]
  refine ⟨by decide, hp, ?_⟩
  rintro ⟨⟨t, c⟩, n, e, _⟩ _ eT
  simp only at eT ⊢
  refine ⟨by decide, fun h => ?_, fun h => ?_⟩
  . rw [oneD, ← eT, if_pos h]
  . rw [oneD, ← eT, if_neg (fun hh => by simp only [Bool.and_eq_false_iff, decide_eq_false_iff_not] at h; exact h.elim (fun h => h hh.1) (fun h => h hh.2))]
theorem h112 : c_der_One.ok Tryz.prog GL 112 := con_ok (H := {}) (mkEnv_ok (gl := GL) (l := [(129, conSem c_der_Take)]) (q := []) (d := []) _ tyOk (by kernel_rfl) ⟨h129.call, trivial⟩ trivial trivial) (by kernel_rfl) (by kernel_rfl) (Eq.mp e112 k112)
def t131 : Prop :=
  ∀ (x : q1), (q52 x) -> True -> (decide (x.1 < q452) = false -> True) /\ (decide (x.1 < q452) = false -> (q192 x) = true /\ True) /\ (decide (x.1 < q452) = false -> (q192 x) = true) /\ ((bif
  decide (x.1 < q452) then true else decide ((16777215 : Int) < x.1)) = true -> q56 = sizeD x.1) /\ ((bif decide (x.1 < q452) then true else decide ((16777215 : Int) < x.1)) = false -> (q56
  <= x.1 /\ x.1 <= (16777215 : Int)) /\ (∀ (y : q6), (q165 y) -> y.1 = lngD x.1 -> wrZ (q92 + (lnZ y.1)) = sizeD x.1) /\ True)
theorem e131 : t131 = Con.vc c_der_Size GL (mkEnv ty [(143, conSem c_der_length)] [] [] [0, 2, 8]) {} Tryz.f131.ntmps Tryz.f131.results.toList (bodyOf Tryz.f131) := by kernel_rfl
theorem k131 : t131 := by
  unfold t131
  delta q1 q52 q452 q192 q56 q6 q165 wrZ q92 lnZ wiZ wyZ
  rintro ⟨n, _⟩ hx hp
  try dsimp +instances only [dft_int, dft_sl, dft_str]
  simp only [true_and, and_true, eq_self_iff_true, implies_true, reduceCtorEq, false_implies, true_implies, decide_eq_true_eq, decide_eq_false_iff_not, beq_self_eq_true, Bool.not_eq_true', ne_eq, Decidable.not_not, List.nil_append, List.length_singleton, List.length_cons, List.length_nil, Nat.zero_add, Nat.add_zero, Nat.mul_one, and_self, beq_iff_eq, Bool.not_true, Bool.not_false, Bool.not_eq_false', Bool.cond_false_right, Bool.and_eq_true, imp_self, Bool.not_eq_true, Bool.cond_true_left, Bool.or_eq_true]
  refine ⟨fun h => by rw [sizeD, if_pos h], fun h => ?_⟩
  simp only [Bool.or_eq_false_iff, decide_eq_false_iff_not] at h
  refine ⟨⟨by omega, by omega⟩, ?_⟩
  rintro ⟨l, _⟩ _ el
  simp only at el ⊢
  have := lng_len (n := n)
  rw [el, wrapK _ (by omega) (by omega), size_of (by omega) (by omega)]
theorem h131 : c_der_Size.ok Tryz.prog GL 131 := con_ok (H := {}) (mkEnv_ok (gl := GL) (l := [(143, conSem c_der_length)]) (q := []) (d := []) _ tyOk (by kernel_rfl) ⟨h143.call, trivial⟩ trivial trivial) (by kernel_rfl) (by kernel_rfl) (Eq.mp e131 k131)
noncomputable def i142 : CallSem → CallSem := vcSeq (mkEnv ty [(129, conSem c_der_Take)] [] [] [0, 1, 3, 4, 5, 6, 10, 27]) {} Tryz.f142.ntmps Tryz.f142.results.toList (bodyOf Tryz.f142)
theorem i142_ok : SeqOk Tryz.prog GL 142 i142 := seq_ok {} (mkEnv_ok (gl := GL) (l := [(129, conSem c_der_Take)]) (q := []) (d := []) _ tyOk (by kernel_rfl) ⟨h129.call, trivial⟩ trivial trivial) (by kernel_rfl) (by kernel_rfl)
noncomputable def i130 : CallSem := vcFn (mkEnv ty [(141, conSem c_slices_Clone_byte_byte)] [] [] [0, 2, 3]) {} Tryz.f130.ntmps Tryz.f130.results.toList (bodyOf Tryz.f130)
theorem i130_ok : CallOk Tryz.prog GL 130 i130 := inl_ok {} (mkEnv_ok (gl := GL) (l := [(141, conSem c_slices_Clone_byte_byte)]) (q := []) (d := []) _ tyOk (by kernel_rfl) ⟨h141.call, trivial⟩ trivial trivial) (by kernel_rfl) (by kernel_rfl)
def t113 : Prop :=
  ∀ (x : q6), (q165 x) -> lenB x.1 <= q103 -> q59 <= q89 /\ q59 <= q89 /\ lenB x.1 <= q103 /\ (∀ (y : q6), (q165 y) -> y.1 = x.1 -> q59 <= q89 /\ ∃ (I : Int × Unit -> Unit × (Int × Unit) ×
  q161 × List q236 × Unit -> Prop), ∃ (μ : Int × Unit -> Unit × (Int × Unit) × q161 × List q236 × Unit -> Nat), (q56 = q56 /\ q56 = q56 /\ Value.slice none q91 q91 = Value.slice none q91 q91
  /\ x.1 = x.1 /\ I (q56, ()) ((), (q56, ()), (y.1, ()), [], ())) /\ ∀ (y : q1) (z : Unit × (Int × Unit) × q161 × List q236 × Unit), (q52 y) -> True /\ (wiZ z.2.1.1 /\ True) /\ (wyZ z.2.2.1.1
  /\ True) /\ (Kd.wf q235 z.2.2.2.1 /\ True) -> I y z -> (decide (y.1 < (lnZ z.2.2.1.1)) = true -> (q56 <= y.1 /\ y.1 <= (lnZ z.2.2.1.1)) /\ lenB (List.drop (q58 y) z.2.2.1.1) <= q103 /\ (∀
  (y_1 : q25), (q231 y_1) -> (y_1.1, y_1.2.1, y_1.2.2.1) = takeD (List.drop (q58 y) z.2.2.1.1) -> q93 <= q89 /\ (decide (y_1.2.2.1 ≠ q56) = false -> True) /\ (decide (y_1.2.2.1 ≠ q56) = false
  -> True) /\ (decide (y_1.2.2.1 ≠ q56) = false -> True) /\ (decide (y_1.2.2.1 ≠ q56) = false -> (decide (y_1.2.2.1 ≠ q56) == false) = true /\ (decide (y_1.2.2.1 ≠ q56) == false) = true /\
  (decide (y_1.2.2.1 ≠ q56) == false) = true /\ q93 <= q89 /\ q91 < q93 /\ (List.length z.2.2.2.1 + List.length [(y_1.1.1, y_1.1.2)]) * (32 : Nat) <= q152 /\ List.length z.2.2.2.1 +
  List.length [(y_1.1.1, y_1.1.2)] <= q151 /\ (((True /\ (∀ (y_2 : q1), (q52 y_2) -> y_2.1 = sizeD (lnZ y_1.1.2) -> (((((q56 = q56 /\ q56 = q56 /\ Value.slice none q91 q91 = Value.slice none
  q91 q91 /\ x.1 = x.1 /\ I (wrZ (y.1 + y_1.2.1), ()) ((), (wrZ (q476 y y_2 y_1), ()), (z.2.2.1.1, ()), z.2.2.2.1 ++ [(y_1.1.1, y_1.1.2)], ()) /\ μ (wrZ (y.1 + y_1.2.1), ()) ((), (wrZ (q476 y
  y_2 y_1), ()), (z.2.2.1.1, ()), z.2.2.2.1 ++ [(y_1.1.1, y_1.1.2)], ()) < μ y z) /\ True) /\ True) /\ True) /\ True) /\ (((((q56 = q56 /\ q56 = q56 /\ Value.slice none q91 q91 = Value.slice
  none q91 q91 /\ x.1 = x.1 /\ I (wrZ (y.1 + y_1.2.1), ()) ((), (wrZ (q476 y y_2 y_1), ()), (z.2.2.1.1, ()), z.2.2.2.1 ++ [(y_1.1.1, y_1.1.2)], ()) /\ μ (wrZ (y.1 + y_1.2.1), ()) ((), (wrZ
  (q476 y y_2 y_1), ()), (z.2.2.1.1, ()), z.2.2.2.1 ++ [(y_1.1.1, y_1.1.2)], ()) < μ y z) /\ True) /\ True) /\ True) /\ ((((q56 = q56 /\ q56 = q56 /\ Value.slice none q91 q91 = Value.slice
  none q91 q91 /\ x.1 = x.1 /\ I (wrZ (y.1 + y_1.2.1), ()) ((), (wrZ (q476 y y_2 y_1), ()), (z.2.2.1.1, ()), z.2.2.2.1 ++ [(y_1.1.1, y_1.1.2)], ()) /\ μ (wrZ (y.1 + y_1.2.1), ()) ((), (wrZ
  (q476 y y_2 y_1), ()), (z.2.2.1.1, ()), z.2.2.2.1 ++ [(y_1.1.1, y_1.1.2)], ()) < μ y z) /\ True) /\ True) /\ True) /\ True) /\ True) /\ True) /\ ((True /\ (∀ (y_2 : q1), (wiZ y_2.1 /\ True)
  -> y_2.1 = sizeD (lnZ y_1.1.2) -> ((((q452 = q452 /\ q452 = q452 /\ Value.slice none q477 q477 = Value.slice none q477 q477 /\ x.1 = x.1 /\ I (wrZ (y.1 + y_1.2.1), ()) ((), (wrZ (q476 y y_2
  y_1), ()), (z.2.2.1.1, ()), z.2.2.2.1 ++ [(y_1.1.1, y_1.1.2)], ()) /\ μ (wrZ (y.1 + y_1.2.1), ()) ((), (wrZ (q476 y y_2 y_1), ()), (z.2.2.1.1, ()), z.2.2.2.1 ++ [(y_1.1.1, y_1.1.2)], ()) <
  μ y z) /\ True) /\ True) /\ True) /\ ((((q452 = q452 /\ q452 = q452 /\ Value.slice none q477 q477 = Value.slice none q477 q477 /\ x.1 = x.1 /\ I (wrZ (y.1 + y_1.2.1), ()) ((), (wrZ (q476 y
  y_2 y_1), ()), (z.2.2.1.1, ()), z.2.2.2.1 ++ [(y_1.1.1, y_1.1.2)], ()) /\ μ (wrZ (y.1 + y_1.2.1), ()) ((), (wrZ (q476 y y_2 y_1), ()), (z.2.2.1.1, ()), z.2.2.2.1 ++ [(y_1.1.1, y_1.1.2)],
  ()) < μ y z) /\ True) /\ True) /\ True) /\ True) /\ True) /\ (q475 y_1 x I y z μ) /\ True) /\ True) /\ (q233 y_1 x I y z μ) /\ True) /\ ((q233 y_1 x I y z μ) /\ (((q475 y_1 x I y z μ) /\
  True) /\ True) /\ True) /\ True) /\ (decide (y_1.2.2.1 ≠ q56) = !false -> (decide (z.2.1.1 = (lnZ x.1)) = true -> (z.2.2.2.1, z.2.1.1, q56) = allD x.1) /\ (q234 z x))) /\ True) /\ (decide
  (y.1 < (lnZ z.2.2.1.1)) = false -> (decide (z.2.1.1 = (lnZ x.1)) = true -> (z.2.2.2.1, z.2.1.1, q56) = allD x.1) /\ (q234 z x))) /\ True
theorem e113 : t113 = Con.vc c_der_All GL (mkEnv ty [(130, i130), (129, conSem c_der_Take), (131, conSem c_der_Size)] [(142, i142)] [] [0, 2, 3, 4, 5, 6, 7, 8, 11, 13, 14, 15, 33]) {} Tryz.f113.ntmps Tryz.f113.results.toList (bodyOf Tryz.f113) := by kernel_rfl
theorem k113 : t113 := by
  unfold t113
  delta q6 q165 q103 q59 q89 q161 q236 q56 q91 q1 q52 wiZ wyZ q235 lnZ q58 q25 q231 q93 q152 q151 wrZ q476 q452 q477 q475 q233 q234 q478 q557 q565 q523 q566
  rintro ⟨b, _⟩ hx hp
  have hp : b.length ≤ 1000000000 := hp
  have hb : Bys b := sl_bys hx.1
  try dsimp +instances only [dft_int, dft_sl, dft_str]
  simp only [true_and, and_true, eq_self_iff_true, implies_true, reduceCtorEq, false_implies, true_implies, decide_eq_true_eq, decide_eq_false_iff_not, beq_self_eq_true, Bool.not_eq_true', ne_eq, Decidable.not_not, List.nil_append, List.length_singleton, List.length_cons, List.length_nil, Nat.zero_add, Nat.add_zero, Nat.mul_one, and_self, beq_iff_eq, Bool.not_true, Bool.not_false, Bool.not_eq_false', Bool.cond_false_right, Bool.and_eq_true, imp_self, Bool.not_eq_true, Bool.cond_true_left, Bool.or_eq_true]
  refine ⟨by decide, by decide, hp, ?_⟩
  rintro ⟨b1, _⟩ _ eb
  have eb : b1 = b := eb
  subst eb
  refine ⟨by decide, fun y z => z.2.2.1.1 = b1 ∧ 0 ≤ y.1 ∧ y.1 ≤ b1.length ∧ z.2.1.1 = y.1 ∧ (z.2.2.2.1 : List EltT).length ≤ y.1 ∧ ∃ (k : Nat) (pre : List (Int × EltT)), (b1.length : Int) - y.1 ≤ k ∧ rowD b1 = (pre ++ (rowR b1 k y.1).1, (rowR b1 k y.1).2) ∧ z.2.2.2.1 = pre.map (·.2), fun y _ => ((b1.length : Int) - y.1).toNat, ⟨rfl, Int.le_refl 0, by simp only; omega, rfl, by simp, b1.length, [], by simp only; omega, rfl, rfl⟩, ?_⟩
  rintro ⟨i, _⟩ ⟨_, ⟨en, _⟩, ⟨own, _⟩, out, _⟩ _ _ ⟨eo, i0, i1, ee, hl, k, pre, hk, hr, eout⟩
  simp only at eo i0 i1 ee hl hk hr eout ⊢
  subst eo ee
  refine ⟨fun hlt => ⟨⟨i0, by omega⟩, by rw [lenB, List.length_drop]; omega, ?_⟩, fun hge => ⟨fun h => ?_, fun h => absurd (by omega) h⟩⟩
  . rintro ⟨x, n, e, _⟩ _ eT
    simp only at eT ⊢
    obtain ⟨m, rfl⟩ : ∃ m, k = m + 1 := ⟨k - 1, by omega⟩
    have hbd : Bys (own.drop en.toNat) := bys_drop hb _
    refine ⟨by decide, fun he => ?_, fun he => ⟨fun h => by omega, fun h => ⟨⟨i0, i1⟩, by rw [lenB, List.length_drop]; omega, ?_⟩⟩⟩
    . subst he
      have ok : (takeD (own.drop en.toNat)).2.2 = 0 := by rw [← eT]
      have h1 := take_inv hbd ok
      have h2 := take_ok hbd ok
      rw [row_step own m en hlt ok] at hr
      rw [← eT] at h1 h2 hr
      simp only at h1 h2 hr
      rw [List.length_drop] at h2
      have hpl := put_len x
      have hll := lng_len (n := (x.2.length : Int))
      refine ⟨by trivial, by trivial, by trivial, by decide, by decide, by omega, by omega, ?_⟩
      rintro ⟨z, _⟩ _ ez
      simp only at ez ⊢
      rw [size_of (by omega) (by omega)] at ez
      rw [wrapK (en + n) (by omega) (by omega), wrapK (en + z) (by omega) (by omega), wrapK (en + z + (x.2.length : Int)) (by omega) (by omega)]
      refine ⟨⟨by trivial, by omega, by omega, by omega, by rw [List.length_append, List.length_singleton]; omega, m, pre ++ [(en, x)], by omega, ?_, ?_⟩, by omega⟩
      . rw [hr]; simp
      . rw [eout]; simp
    . rintro ⟨x2, n2, e2, _⟩ _ eT2
      simp only at eT2 ⊢
      have he2 : e2 = e := by
        have := eT.trans eT2.symm
        simp only [Prod.mk.injEq] at this
        exact this.2.2.symm
      have bad : (takeD (own.drop en.toNat)).2.2 ≠ 0 := by rw [← eT]; exact he
      rw [row_bad own m en hlt bad, ← eT] at hr
      refine ⟨by decide, ?_⟩
      rw [allD, hr, he2]
      simp only
      rw [if_pos he]
  . rw [row_end own k en hge] at hr
    rw [allD, hr]
    simp only
    rw [if_neg (by simp), List.append_nil, eout]
theorem h113 : c_der_All.ok Tryz.prog GL 113 := con_ok (H := {}) (mkEnv_ok (gl := GL) (l := [(130, i130), (129, conSem c_der_Take), (131, conSem c_der_Size)]) (q := [(142, i142)]) (d := []) _ tyOk (by kernel_rfl) ⟨i130_ok, h129.call, h131.call, trivial⟩ ⟨i142_ok, trivial⟩ trivial) (by kernel_rfl) (by kernel_rfl) (Eq.mp e113 k113)
end Go.Proofs.YtgnlcpoeepfdoaaGreatDoor
end
section
namespace Go.Proofs.YtgnlcpoeepfdoaaGreatDoor
open Go Go.Vc Go.Pl Go.Proofs
def c_r01_IsTag : Con := { args := [.dat I64], res := [.dat .bool], pre := fun _ => True, post := fun x y => y.1 = isTagD x.1 }
def c_r01_Length : Con := { args := [.dat I64], res := [.own 5 U8], pre := fun x => 0 ≤ x.1 ∧ x.1 ≤ 16777215, post := fun x y => y.1 = lngD x.1 }
def c_r01_Bytes : Con := { args := [.dat ET], res := [.own 5 U8], pre := fun x => lenB x.1.2 ≤ 16777215 ∧ 0 ≤ x.1.1 ∧ x.1.1 ≤ 255, post := fun x y => y.1 = putB x.1 }
def c_r01_Take : Con := { args := [.dat BY], res := [.dat ET, .dat I64, .dat I64], pre := fun x => lenB x.1 ≤ 1000000000, post := fun x y => (y.1, y.2.1, y.2.2.1) = takeD x.1 }
def c_r01_One : Con := { args := [.dat BY], res := [.dat ET, .dat I64], pre := fun x => lenB x.1 ≤ 1000000000, post := fun x y => (y.1, y.2.1) = oneD x.1 }
def c_r01_Row : Con := { args := [.dat BY], res := [.own 78 ET, .own 3 I64, .dat I64, .dat I64], pre := fun x => lenB x.1 ≤ 1000000000, post := fun x y => y.1 = (rowD x.1).1.map (·.2) ∧ y.2.1 = (rowD x.1).1.map (·.1) ∧ (y.2.2.1, y.2.2.2.1) = (rowD x.1).2 }
def c_r01_All : Con := { args := [.dat BY], res := [.own 78 ET, .dat I64, .dat I64], pre := fun x => lenB x.1 ≤ 1000000000, post := fun x y => (y.1, y.2.1, y.2.2.1) = allD x.1 }
end Go.Proofs.YtgnlcpoeepfdoaaGreatDoor
end
section
namespace Go.Proofs.YtgnlcpoeepfdoaaGreatDoor
open Go Go.Vc Go.Pl Go.Proofs
set_option linter.unusedVariables false
set_option linter.unusedSimpArgs false
set_option maxRecDepth 20000
abbrev q26 := (Unit × Unit)
abbrev q27 := (Int × Int × Int × Unit)
abbrev q28 := (Int × Int × List Int)
abbrev q237 (p0 : q1) := ((bif decide (q452 <= p0.1) then decide (p0.1 < (256 : Int)) else false) == true)
abbrev q238 (p0 : q1) := (bif decide (q452 <= p0.1) then decide (p0.1 < (256 : Int)) else false)
abbrev q564 (p0 : q24) (p1 : q6) := (List.drop (Int.toNat p0.1) (List.take (Int.toNat (wrZ (p0.1 + p0.2.1))) p1.1))
abbrev q563 (p0 : q6) (p1 : q24) := (((wrZ (List.getD p0.1 (0 : Nat) q585), [] ++ List.drop (Int.toNat p1.1) (List.take (Int.toNat (wrZ (p1.1 + p1.2.1))) p0.1)), wrZ (p1.1 + p1.2.1), (0 :
  Int)) = takeD p0.1 /\ True)
abbrev q524 (p0 : q24) (p1 : q6) := (q565 < q556 /\ (q565 + List.length (q564 p0 p1)) * q556 <= (140737488355328 : Nat) /\ q565 + List.length (q564 p0 p1) <= (9223372036854775807 : Nat) /\
  (q563 p1 p0) /\ True)
abbrev q239 (p0 : q24) (p1 : q6) := (((q452 <= p0.1 /\ p0.1 <= wrZ (p0.1 + p0.2.1) /\ wrZ (p0.1 + p0.2.1) <= (lnZ p1.1)) /\ (q524 p0 p1) /\ True) /\ True)
abbrev q240 (p0 : q24) (p1 : q6) := ((q524 p0 p1) /\ True)
abbrev q241 (p0 : q24) (p1 : q6) := (q477 < q556 /\ (q565 + List.length (q564 p0 p1)) * q556 <= (140737488355328 : Nat) /\ q477 + List.length (q564 p0 p1) <= (9223372036854775807 : Nat) /\
  ((q563 p1 p0) /\ True) /\ True)
abbrev q242 (p0 : q6) := (bif decide (wrZ (q522 p0) = (128 : Int)) then true else decide ((131 : Int) < wrZ (q522 p0)))
abbrev q243 (p0 : q6) := (bif decide (q479 p0) then decide (List.getD p0.1 (2 : Nat) q501 = q452) else false)
abbrev q244 (p0 : q6) := (decide (q479 p0) = true -> (decide (q479 p0) == true) = true /\ True)
abbrev q245 (p0 : q24) (p1 : q6) := (q452 <= p0.1 /\ p0.1 <= wrZ (p0.1 + p0.2.1) /\ wrZ (p0.1 + p0.2.1) <= (lnZ p1.1))
abbrev q246 (p0 : q6) := (wrZ (q522 p0) = (128 : Int))
abbrev q247 := (Kd.dft q553)
abbrev q248 (p0 : q27) := (wiZ p0.1 /\ wiZ p0.2.1 /\ wiZ p0.2.2.1 /\ True)
abbrev q249 := (Kd.sl q566)
def t105 : Prop :=
  ∀ (x : q1), (q52 x) -> True -> (decide (q55 x) = true -> True) /\ (decide (q55 x) = true -> (decide (q55 x) == true) = true /\ True) /\ (decide (q55 x) = true -> (decide (q55 x) == true) =
  true) /\ ((q238 x) = true -> True) /\ ((q238 x) = true -> (q237 x) = true /\ (32 : Int) ≠ q56 /\ True) /\ ((q238 x) = true -> (q237 x) = true /\ True) /\ ((q238 x) = true -> (q237 x) =
  true) /\ (bif bif decide (q55 x) then decide (x.1 < (256 : Int)) else false then decide (Int.tmod x.1 (32 : Int) ≠ (31 : Int)) else false) = isTagD x.1
theorem e105 : t105 = Con.vc c_r01_IsTag GL (mkEnv ty [] [] [] [0, 2]) {} Tryz.f105.ntmps Tryz.f105.results.toList (bodyOf Tryz.f105) := by kernel_rfl
theorem k105 : t105 := by
  unfold t105
  delta q1 q52 q55 q238 q237 q56 wiZ q452
  rintro ⟨t, _⟩ hx hp
  try dsimp +instances only [dft_int, dft_sl, dft_str]
  simp only [true_and, and_true, eq_self_iff_true, implies_true, reduceCtorEq, false_implies, true_implies, decide_eq_true_eq, decide_eq_false_iff_not, beq_self_eq_true, Bool.not_eq_true', ne_eq, Decidable.not_not, List.nil_append, List.length_singleton, List.length_cons, List.length_nil, Nat.zero_add, Nat.add_zero, Nat.mul_one, and_self, beq_iff_eq, Bool.not_true, Bool.not_false, Bool.not_eq_false', Bool.cond_false_right, Bool.and_eq_true, imp_self, Bool.not_eq_true, Bool.cond_true_left, Bool.or_eq_true]
  exact ⟨fun h => ⟨h, by decide⟩, isTag_ref t⟩
theorem h105 : c_r01_IsTag.ok Tryz.prog GL 105 := con_ok (H := {}) (mkEnv_ok (gl := GL) (l := []) (q := []) (d := []) _ tyOk (by kernel_rfl) trivial trivial trivial) (by kernel_rfl) (by kernel_rfl) (Eq.mp e105 k105)
def t128 : Prop :=
  ∀ (x : q1), (q52 x) -> q56 <= x.1 /\ x.1 <= (16777215 : Int) -> (decide (x.1 < q115) = true -> [IntKind.wrap IntKind.u8 x.1] = lngD x.1) /\ (decide (x.1 < q115) = false -> ∃ (I : q18), ∃ (μ
  : q19), (Value.bool false = Value.bool false /\ Value.slice none q91 q91 = Value.slice none q91 q91 /\ I (x.1, ()) ([], ())) /\ ∀ (y : q1) (z : q6), (q52 y) -> (q165 z) -> I y z -> (decide
  (q160 y) = true -> (256 : Int) ≠ q56 /\ q91 < q59 /\ (List.length [IntKind.wrap IntKind.u8 (Int.tmod y.1 (256 : Int))] + List.length z.1) * q59 <= q152 /\ List.length [IntKind.wrap
  IntKind.u8 (Int.tmod y.1 (256 : Int))] + List.length z.1 <= q151 /\ (256 : Int) ≠ q56 /\ Value.bool false = Value.bool false /\ Value.slice none q91 q91 = Value.slice none q91 q91 /\ I (wrZ
  (Int.tdiv y.1 (256 : Int)), ()) ([IntKind.wrap IntKind.u8 (Int.tmod y.1 (256 : Int))] ++ z.1, ()) /\ μ (wrZ (Int.tdiv y.1 (256 : Int)), ()) ([IntKind.wrap IntKind.u8 (Int.tmod y.1 (256 :
  Int))] ++ z.1, ()) < μ y z) /\ (decide (q160 y) = false -> q91 < q59 /\ (List.length [IntKind.wrap IntKind.u8 (wrZ (q115 + (lnZ z.1)))] + List.length z.1) * q59 <= q152 /\ List.length
  [IntKind.wrap IntKind.u8 (wrZ (q115 + (lnZ z.1)))] + List.length z.1 <= q151 /\ [IntKind.wrap IntKind.u8 (wrZ (q115 + (lnZ z.1)))] ++ z.1 = lngD x.1))
theorem e128 : t128 = Con.vc c_r01_Length GL (mkEnv ty [] [] [] [0, 2, 3, 5, 10]) {} Tryz.f128.ntmps Tryz.f128.results.toList (bodyOf Tryz.f128) := by kernel_rfl
theorem k128 : t128 := by
  unfold t128
  delta q1 q52 q56 q115 q18 q19 q91 q6 q165 q160 q59 q152 q151 wrZ lnZ wiZ wyZ q452
  rintro ⟨n, _⟩ hx hp
  obtain ⟨h0, h1⟩ := hp
  simp only at h0 h1
  try dsimp +instances only [dft_int, dft_sl, dft_str]
  simp only [true_and, and_true, eq_self_iff_true, implies_true, reduceCtorEq, false_implies, true_implies, decide_eq_true_eq, decide_eq_false_iff_not, beq_self_eq_true, Bool.not_eq_true', ne_eq, Decidable.not_not, List.nil_append, List.length_singleton, List.length_cons, List.length_nil, Nat.zero_add, Nat.add_zero, Nat.mul_one, and_self, beq_iff_eq, Bool.not_true, Bool.not_false, Bool.not_eq_false', Bool.cond_false_right, Bool.and_eq_true, imp_self, Bool.not_eq_true, Bool.cond_true_left, Bool.or_eq_true]
  refine ⟨fun h => by rw [lngD, if_pos h, wrap_u8m, show n % 256 = n by omega], fun h => ?_⟩
  refine ⟨fun y z => (y.1 = n ∧ z.1 = []) ∨ (y.1 = n / 256 ∧ z.1 = [n % 256]) ∨ (0 < n / 256 ∧ y.1 = n / 65536 ∧ z.1 = [n / 256 % 256, n % 256]) ∨ (0 < n / 65536 ∧ y.1 = 0 ∧ z.1 = [n / 65536, n / 256 % 256, n % 256]), fun y _ => y.1.toNat, .inl ⟨rfl, rfl⟩, ?_⟩
  rintro ⟨m, _⟩ ⟨z, _⟩ _ _ hI
  simp only at hI ⊢
  refine ⟨fun hlt => ?_, fun hge => ?_⟩
  . have hm : IntKind.wrap .i64 (m.tdiv 256) = m / 256 := by
      rw [Int.tdiv_eq_ediv_of_nonneg (by omega), wrapK _ (by omega) (by omega)]
    have hm2 : IntKind.wrap .u8 (m.tmod 256) = m % 256 := by
      rw [Int.tmod_eq_emod_of_nonneg (by omega), wrap_u8m]
      omega
    rw [hm, hm2]
    rcases hI with ⟨rfl, rfl⟩ | ⟨rfl, rfl⟩ | ⟨g, rfl, rfl⟩ | ⟨g, rfl, rfl⟩
    . exact ⟨by decide, by decide, by simp, by simp, by decide, .inr (.inl ⟨rfl, rfl⟩), by omega⟩
    . exact ⟨by decide, by decide, by simp, by simp, by decide, .inr (.inr (.inl ⟨hlt, by omega, rfl⟩)), by omega⟩
    . refine ⟨by decide, by decide, by simp, by simp, by decide, .inr (.inr (.inr ⟨hlt, by omega, ?_⟩)), by omega⟩
      rw [show n / 65536 % 256 = n / 65536 by omega]
      rfl
    . omega
  . rcases hI with ⟨rfl, rfl⟩ | ⟨rfl, rfl⟩ | ⟨g, rfl, rfl⟩ | ⟨g, rfl, rfl⟩
    . omega
    . refine ⟨by decide, by simp, by simp, ?_⟩
      rw [lngD, if_neg h, if_pos (by omega), show n % 256 = n by omega]
      rfl
    . refine ⟨by decide, by simp, by simp, ?_⟩
      rw [lngD, if_neg h, if_neg (by omega), if_pos (by omega), show n / 256 % 256 = n / 256 by omega]
      rfl
    . refine ⟨by decide, by simp, by simp, ?_⟩
      rw [lngD, if_neg h, if_neg (by omega), if_neg (by omega)]
      rfl
theorem h128 : c_r01_Length.ok Tryz.prog GL 128 := con_ok (H := {}) (mkEnv_ok (gl := GL) (l := []) (q := []) (d := []) _ tyOk (by kernel_rfl) trivial trivial trivial) (by kernel_rfl) (by kernel_rfl) (Eq.mp e128 k128)
def t111 : Prop :=
  ∀ (x : q22), (Kd.wf q478 x.1 /\ True) -> lenB x.1.2 <= (16777215 : Nat) /\ q56 <= x.1.1 /\ x.1.1 <= (255 : Int) -> List.length [SV.dat q183 x.1.1, SV.dat (Kd.sl (Kd.int IntKind.u8)) x.1.2]
  <= q89 /\ q91 < q59 /\ (q91 + List.length [IntKind.wrap IntKind.u8 x.1.1]) * q59 <= q152 /\ q91 + List.length [IntKind.wrap IntKind.u8 x.1.1] <= q151 /\ (q56 <= (lnZ x.1.2) /\ (lnZ x.1.2)
  <= (16777215 : Int)) /\ (∀ (y : q6), (q165 y) -> y.1 = lngD (lnZ x.1.2) -> q91 < q59 /\ (List.length ([] ++ [IntKind.wrap IntKind.u8 x.1.1]) + List.length y.1) * q59 <= q152 /\ List.length
  ([] ++ [IntKind.wrap IntKind.u8 x.1.1]) + List.length y.1 <= q151 /\ q91 < q59 /\ (List.length ([] ++ [IntKind.wrap IntKind.u8 x.1.1] ++ y.1) + List.length x.1.2) * q59 <= q152 /\
  List.length ([] ++ [IntKind.wrap IntKind.u8 x.1.1] ++ y.1) + List.length x.1.2 <= q151 /\ [] ++ [IntKind.wrap IntKind.u8 x.1.1] ++ y.1 ++ x.1.2 = putB x.1) /\ True
theorem e111 : t111 = Con.vc c_r01_Bytes GL (mkEnv ty [(128, conSem c_r01_Length)] [] [] [0, 1, 2, 3]) {} Tryz.f111.ntmps Tryz.f111.results.toList (bodyOf Tryz.f111) := by kernel_rfl
theorem k111 : t111 := by
  unfold t111
  delta q22 q478 q56 q183 q89 q91 q59 q152 q151 lnZ q6 q165 q566 wyZ
  rintro ⟨⟨t, c⟩, _⟩ hx hp
  obtain ⟨h1, h2, h3⟩ := hp
  simp only [lenB] at h1 h2 h3
  try dsimp +instances only [dft_int, dft_sl, dft_str]
  simp only [true_and, and_true, eq_self_iff_true, implies_true, reduceCtorEq, false_implies, true_implies, decide_eq_true_eq, decide_eq_false_iff_not, beq_self_eq_true, Bool.not_eq_true', ne_eq, Decidable.not_not, List.nil_append, List.length_singleton, List.length_cons, List.length_nil, Nat.zero_add, Nat.add_zero, Nat.mul_one, and_self, beq_iff_eq, Bool.not_true, Bool.not_false, Bool.not_eq_false', Bool.cond_false_right, Bool.and_eq_true, imp_self, Bool.not_eq_true, Bool.cond_true_left, Bool.or_eq_true]
  have hll := lng_len (n := (c.length : Int))
  refine ⟨by decide, by decide, by decide, by decide, ⟨by omega, by omega⟩, ?_⟩
  rintro ⟨l, _⟩ _ el
  simp only at el ⊢
  subst el
  refine ⟨by decide, by omega, by omega, by decide, by simp only [List.length_append, List.length_singleton]; omega, by simp only [List.length_append, List.length_singleton]; omega, ?_⟩
  rw [wrap8 t h2 h3, putB]
  simp
theorem h111 : c_r01_Bytes.ok Tryz.prog GL 111 := con_ok (H := {}) (mkEnv_ok (gl := GL) (l := [(128, conSem c_r01_Length)]) (q := []) (d := []) _ tyOk (by kernel_rfl) ⟨h128.call, trivial⟩ trivial trivial) (by kernel_rfl) (by kernel_rfl) (Eq.mp e111 k111)
def t90 : Prop :=
  ∀ (x : q6), (q165 x) -> lenB x.1 <= q103 -> q93 <= q89 /\ (decide ((lnZ x.1) = q56) = true -> ((q56, []), q56, (10 : Int)) = takeD x.1) /\ (decide ((lnZ x.1) = q56) = false -> (q84 x) /\
  True /\ (∀ (y : q4), (q67 y) -> y.1 = isTagD (wrZ (q225 x)) -> ((!y.1) = true -> ((q56, []), q56, (11 : Int)) = takeD x.1) /\ ((!y.1) = false -> (decide ((lnZ x.1) = q92) = true -> ((q56,
  []), q56, (10 : Int)) = takeD x.1) /\ (decide ((lnZ x.1) = q92) = false -> (q85 x) /\ (decide (q246 x) = false -> True) /\ (decide (q246 x) = false -> (decide (q246 x) == false) = true /\
  True) /\ (decide (q246 x) = false -> (decide (q246 x) == false) = true) /\ ((q242 x) = true -> ((q56, []), q56, q90) = takeD x.1) /\ ((q242 x) = false -> ∃ (J : Int × Int × Int × Int × Unit
  -> (Int × Unit) × Unit -> Prop), ((decide (q115 < wrZ (q226 x)) = true -> (decide (q227 x) = true -> True) /\ (decide (q227 x) = true -> (decide (q479 x) == true) = true /\ (q56 <= q94 /\
  q94 < (lnZ x.1)) /\ True) /\ (q244 x) /\ (q244 x) /\ (decide (q227 x) = true -> (decide (q479 x) == true) = true) /\ ((q243 x) = true -> ((q56, []), q56, q90) = takeD x.1) /\ ((q243 x) =
  false -> (decide (q221 x) = true -> ((q56, []), q56, (10 : Int)) = takeD x.1) /\ (decide (q221 x) = false -> ∃ (I : Int × Int × Unit -> Unit × Unit -> Prop), ∃ (μ : Int × Int × Unit -> Unit
  × Unit -> Nat), (Value.bool false = Value.bool false /\ Value.bool false = Value.bool false /\ wrZ (q224 x) = wrZ (q224 x) /\ Value.bool true = Value.bool true /\ Value.bool false =
  Value.bool false /\ q94 = q94 /\ Value.bool false = Value.bool false /\ Value.bool false = Value.bool false /\ Value.bool false = Value.bool false /\ q56 = q56 /\ q56 = q56 /\ x.1 = x.1 /\
  q56 = q56 /\ Value.slice none q91 q91 = Value.slice none q91 q91 /\ I (q56, q56, ()) ((), ())) /\ ∀ (y : q7) (z : q26), (q113 y) -> True /\ True -> I y z -> (decide (y.1 < wrZ (q224 x)) =
  true -> (q56 <= wrZ (q94 + y.1) /\ wrZ (q94 + y.1) < (lnZ x.1)) /\ Value.bool false = Value.bool false /\ Value.bool false = Value.bool false /\ wrZ (q224 x) = wrZ (q224 x) /\ Value.bool
  true = Value.bool true /\ Value.bool false = Value.bool false /\ q94 = q94 /\ Value.bool false = Value.bool false /\ Value.bool false = Value.bool false /\ Value.bool false = Value.bool
  false /\ q56 = q56 /\ q56 = q56 /\ x.1 = x.1 /\ q56 = q56 /\ Value.slice none q91 q91 = Value.slice none q91 q91 /\ I (wrZ (q114 y), wrZ (wrZ ((256 : Int) * y.2.1) + wrZ (List.getD x.1
  (Int.toNat (wrZ (q94 + y.1))) q247)), ()) ((), ()) /\ μ (wrZ (q114 y), wrZ (wrZ ((256 : Int) * y.2.1) + wrZ (List.getD x.1 (Int.toNat (wrZ (q94 + y.1))) q247)), ()) ((), ()) < μ y z) /\
  (decide (y.1 < wrZ (q224 x)) = false -> (decide (y.2.1 < q115) = true -> ((q56, []), q56, q90) = takeD x.1) /\ (decide (y.2.1 < q115) = false -> Value.bool false = Value.bool false /\
  Value.bool false = Value.bool false /\ Value.bool false = Value.bool false /\ Value.bool false = Value.bool false /\ x.1 = x.1 /\ Value.slice none q91 q91 = Value.slice none q91 q91 /\ J
  (wrZ (q223 x), y.2.1, q56, q56, ()) ((q56, ()), ())))))) /\ (decide (q115 < wrZ (q226 x)) = false -> Value.bool false = Value.bool false /\ Value.bool false = Value.bool false /\ Value.bool
  false = Value.bool false /\ Value.bool false = Value.bool false /\ x.1 = x.1 /\ Value.slice none q91 q91 = Value.slice none q91 q91 /\ J (q94, wrZ (q226 x), q56, q56, ()) ((q56, ()), ())))
  /\ ∀ (u : q24) (z : (Int × Unit) × Unit), (q229 u) -> (wiZ z.1.1 /\ True) /\ True -> J u z -> (decide (wrZ ((lnZ x.1) - u.1) < u.2.1) = true -> ((q56, []), q56, (10 : Int)) = takeD x.1) /\
  (decide (wrZ ((lnZ x.1) - u.1) < u.2.1) = false -> (q84 x) /\ ((q239 u x) /\ ((q245 u x) /\ (q240 u x) /\ True) /\ True) /\ ((q239 u x) /\ ((q245 u x) /\ (q240 u x) /\ (q241 u x) /\ True)
  /\ True) /\ ((q245 u x) /\ ((q240 u x) /\ True) /\ ((q240 u x) /\ (q241 u x) /\ True) /\ True) /\ True))))) /\ True)
theorem e90 : t90 = Con.vc c_r01_Take GL (mkEnvO ty [(105, conSem c_r01_IsTag)] [] [] [0, 2, 3, 4, 5, 6, 7, 8, 11, 18, 22, 33, 36, 47, 53, 57, 70, 79] [1000000]) {joins := [25]} Tryz.f90.ntmps Tryz.f90.results.toList (bodyOf Tryz.f90) := by kernel_rfl
theorem k90 : t90 := by
  unfold t90
  delta q6 q165 q103 q93 q89 lnZ q56 q84 q4 q67 wrZ q225 q92 q85 q246 q242 q90 q115 q226 q227 q479 q94 q244 q243 q221 q224 q91 q7 q26 q113 q114 q247 q223 q24 q229 wiZ q239 q245 q240 q241 wyZ q452 wbZ q477 q501 q491 q522 q556 q500 q585 q553 q562 q524 q565 q564 q563
  rintro ⟨b, _⟩ hx hp
  have hp : b.length ≤ 1000000000 := hp
  have hb : Bys b := sl_bys hx.1
  try dsimp +instances only [dft_int, dft_sl, dft_str]
  simp only [true_and, and_true, eq_self_iff_true, implies_true, reduceCtorEq, false_implies, true_implies, decide_eq_true_eq, decide_eq_false_iff_not, beq_self_eq_true, Bool.not_eq_true', ne_eq, Decidable.not_not, List.nil_append, List.length_singleton, List.length_cons, List.length_nil, Nat.zero_add, Nat.add_zero, Nat.mul_one, and_self, beq_iff_eq, Bool.not_true, Bool.not_false, Bool.not_eq_false', Bool.cond_false_right, Bool.and_eq_true, imp_self, Bool.not_eq_true, Bool.cond_true_left, Bool.or_eq_true]
  have b0 := bys_get hb 0
  have b1 := bys_get hb 1
  rw [wrapK (b.getD 0 0) (by omega) (by omega), wrapK (b.getD 1 0) (by omega) (by omega), wrapK (b.getD 1 0 - 128) (by omega) (by omega), wrapK (2 + (b.getD 1 0 - 128)) (by omega) (by omega)]
  have hnil : b = [] ↔ (b.length : Int) = 0 := ⟨fun h => by rw [h]; rfl, fun h => List.eq_nil_of_length_eq_zero (by omega)⟩
  refine ⟨by decide, fun h => (take_bad (by rw [headK, if_pos (hnil.2 h)]) (by decide)).symm, fun h => ⟨⟨by decide, by omega⟩, ?_⟩⟩
  have c1 : ¬ b = [] := fun e => h (hnil.1 e)
  rintro ⟨q, _⟩ _ eq
  simp only at eq ⊢
  subst eq
  refine ⟨fun h1 => (take_bad (by rw [headK, if_neg c1, if_pos h1]) (by decide)).symm, fun h1 => ?_⟩
  have c2 : ¬ isTagD (b.getD 0 0) = false := by rw [h1]; decide
  refine ⟨fun h2 => (take_bad (by rw [headK, if_neg c1, if_neg c2, if_pos (by omega)]) (by decide)).symm, fun h2 => ⟨⟨by decide, by omega⟩, fun h3 => ?_, fun h3 => ?_⟩⟩
  . refine (take_bad ?_ (by decide)).symm
    rw [headK, if_neg c1, if_neg c2, if_neg (by omega), if_neg (by omega), if_pos (by omega)]
  have c3 : ¬ b.length = 1 := by omega
  have h3' : ¬ b.getD 1 0 = 128 ∧ ¬ 131 < b.getD 1 0 := by
    simp only [Bool.or_eq_false_iff, decide_eq_false_iff_not] at h3
    exact h3
  refine ⟨fun u _ => headK b = (b.getD 0 0, u.1, u.2.1, 0), ⟨fun h4 => ⟨fun g => ⟨g, by decide, g⟩, fun g => ?_, fun g => ⟨fun h5 => ?_, fun h5 => ?_⟩⟩, fun h4 => ?_⟩, ?_⟩
  . refine (take_bad ?_ (by decide)).symm
    rw [headK, if_neg c1, if_neg c2, if_neg c3, if_neg (by omega), if_pos (.inr (.inr ⟨by omega, g.2⟩))]
  . have g2 : ¬ (b.getD 1 0 = 128 ∨ 131 < b.getD 1 0 ∨ (2 < b.length ∧ b.getD 2 0 = 0)) := by
      simp only [Bool.and_eq_false_iff, decide_eq_false_iff_not] at g
      omega
    refine (take_bad ?_ (by decide)).symm
    rw [headK, if_neg c1, if_neg c2, if_neg c3, if_neg (by omega), if_neg g2, if_pos h5]
  . have g2 : ¬ (b.getD 1 0 = 128 ∨ 131 < b.getD 1 0 ∨ (2 < b.length ∧ b.getD 2 0 = 0)) := by
      simp only [Bool.and_eq_false_iff, decide_eq_false_iff_not] at g
      omega
    have hl : ((b.drop 2).take (b.getD 1 0 - 128).toNat).length = (b.getD 1 0 - 128).toNat := by rw [List.length_take, List.length_drop]; omega
    have hbl : Bys ((b.drop 2).take (b.getD 1 0 - 128).toNat) := bys_take (bys_drop hb 2) _
    refine ⟨fun y _ => 0 ≤ y.1 ∧ y.1 ≤ b.getD 1 0 - 128 ∧ y.2.1 = numB (((b.drop 2).take (b.getD 1 0 - 128).toNat).take y.1.toNat), fun y _ => (b.getD 1 0 - 128 - y.1).toNat, ⟨Int.le_refl 0, by simp only; omega, rfl⟩, ?_⟩
    rintro ⟨i, n, _⟩ _ _ ⟨i0, i1, en⟩
    simp only at i0 i1 en ⊢
    refine ⟨fun hlt => ?_, fun hge => ?_⟩
    . have hnb := num_bound hbl (j := i.toNat) (by omega)
      rw [← en] at hnb
      rw [wrapK (2 + i) (by omega) (by omega)]
      have hg : ((b.drop 2).take (b.getD 1 0 - 128).toNat).getD i.toNat 0 = b.getD (2 + i).toNat 0 := by
        rw [getD_take _ _ _ (by omega), getD_drop, show 2 + i.toNat = (2 + i).toNat by omega]
      have hbi := bys_get hb (2 + i).toNat
      rw [wrapK (i + 1) (by omega) (by omega), wrapK (256 * n) (by omega) (by omega), wrapK (b.getD (2 + i).toNat 0) (by omega) (by omega), wrapK _ (by omega) (by omega)]
      refine ⟨⟨by omega, by omega⟩, ⟨by omega, by omega, ?_⟩, by omega⟩
      rw [show (i + 1).toNat = i.toNat + 1 by omega, take_snoc _ _ (by omega), num_snoc, en, hg]
    . rw [List.take_of_length_le (by omega)] at en
      rw [en]
      refine ⟨fun h6 => (take_bad ?_ (by decide)).symm, fun h6 => ?_⟩
      . rw [headK, if_neg c1, if_neg c2, if_neg c3, if_neg (by omega), if_neg g2, if_neg h5, if_pos h6]
      . rw [headK, if_neg c1, if_neg c2, if_neg c3, if_neg (by omega), if_neg g2, if_neg h5, if_neg h6]
  . rw [headK, if_neg c1, if_neg c2, if_neg c3, if_pos (by omega)]
  . rintro ⟨f, n, j1, j2, _⟩ _ _ _ hK
    simp only at hK ⊢
    have hok := head_ok hb (by rw [hK])
    rw [hK] at hok
    simp only at hok
    rw [take_good hK, wrapK ((b.length : Int) - f) (by omega) (by omega)]
    refine ⟨fun h6 => by rw [if_pos h6], fun h6 => ?_⟩
    rw [if_neg h6, wrapK (f + n) (by omega) (by omega)]
    refine ⟨⟨by decide, by omega⟩, ⟨by omega, by omega, by omega⟩, by decide, by rw [List.length_drop, List.length_take]; omega, by rw [List.length_drop, List.length_take]; omega, ?_⟩
    rw [List.drop_take, show (f + n).toNat - f.toNat = n.toNat by omega]
theorem h90 : c_r01_Take.ok Tryz.prog GL 90 := conO_ok (H := {joins := [25]}) (mkEnvO_ok (gl := GL) (l := [(105, conSem c_r01_IsTag)]) (q := []) (d := []) _ [1000000] tyOk (by kernel_rfl) ⟨h105.call, trivial⟩ trivial trivial) (by kernel_rfl) (by kernel_rfl) (Eq.mp e90 k90)
def t59 : Prop :=
  ∀ (x : q6), (q165 x) -> lenB x.1 <= q103 -> q93 <= q89 /\ lenB x.1 <= q103 /\ (∀ (y : q25), (q231 y) -> (y.1, y.2.1, y.2.2.1) = takeD x.1 -> q93 <= q89 /\ (decide (q232 y) = true -> True)
  /\ (decide (q232 y) = true -> True) /\ (decide (q232 y) = true -> (q474 y) = true /\ True) /\ (q230 y) /\ (decide (q232 y) = true -> (q474 y) = true) /\ ((bif decide (q232 y) then decide
  (y.2.1 ≠ (lnZ x.1)) else false) = true -> ((q56, []), (13 : Int)) = oneD x.1) /\ ((bif decide (q232 y) then decide (y.2.1 ≠ (lnZ x.1)) else false) = false -> ((y.1.1, y.1.2), y.2.2.1) =
  oneD x.1)) /\ True
theorem e59 : t59 = Con.vc c_r01_One GL (mkEnv ty [(90, conSem c_r01_Take)] [] [] [0, 2, 3, 4, 5, 6, 20]) {} Tryz.f59.ntmps Tryz.f59.results.toList (bodyOf Tryz.f59) := by kernel_rfl
theorem k59 : t59 := by
  unfold t59
  delta q6 q165 q103 q93 q89 q25 q231 q232 q474 q230 lnZ q56 wyZ q478 wiZ q452 q557 q566
  rintro ⟨b, _⟩ hx hp
  have hp : b.length ≤ 1000000000 := hp
  have hb : Bys b := sl_bys hx.1
  try dsimp +instances only [dft_int, dft_sl, dft_str]
  simp only [true_and, and_true, eq_self_iff_true, implies_true, reduceCtorEq, false_implies, true_implies, decide_eq_true_eq, decide_eq_false_iff_not, beq_self_eq_true, Bool.not_eq_true', ne_eq, Decidable.not_not, List.nil_append, List.length_singleton, List.length_cons, List.length_nil, Nat.zero_add, Nat.add_zero, Nat.mul_one, and_self, beq_iff_eq, Bool.not_true, Bool.not_false, Bool.not_eq_false', Bool.cond_false_right, Bool.and_eq_true, imp_self, Bool.not_eq_true, Bool.cond_true_left, Bool.or_eq_true]
  refine ⟨by decide, hp, ?_⟩
  rintro ⟨⟨t, c⟩, n, e, _⟩ _ eT
  simp only at eT ⊢
  have hok : e = 0 → n ≤ b.length := fun he => by
    have := take_ok hb (by rw [← eT]; exact he)
    rw [← eT] at this
    exact this.2
  refine ⟨by decide, fun h => ?_, fun h => ?_⟩
  . have := hok h.1
    rw [oneD, ← eT, if_pos ⟨h.1, by simp only; omega⟩]
  . rw [oneD, ← eT, if_neg (fun hh => by
      simp only [Bool.and_eq_false_iff, decide_eq_false_iff_not, Decidable.not_not] at h hh
      exact h.elim (fun h => h hh.1) (fun h => by omega))]
theorem h59 : c_r01_One.ok Tryz.prog GL 59 := con_ok (H := {}) (mkEnv_ok (gl := GL) (l := [(90, conSem c_r01_Take)]) (q := []) (d := []) _ tyOk (by kernel_rfl) ⟨h90.call, trivial⟩ trivial trivial) (by kernel_rfl) (by kernel_rfl) (Eq.mp e59 k59)
def t124 : Prop :=
  ∀ (x : q6), (q165 x) -> lenB x.1 <= q103 -> ∃ (I : Int × Int × Int × Unit -> List Int × List q236 × List Int × List q236 × Unit -> Prop), ∃ (μ : Int × Int × Int × Unit -> List Int × List
  q236 × List Int × List q236 × Unit -> Nat), (x.1 = x.1 /\ I (q56, q56, q56, ()) ([], [], [], [], ())) /\ ∀ (y : q27) (z : List Int × List q236 × List Int × List q236 × Unit), (q248 y) ->
  (Kd.wf q249 z.1 /\ Kd.wf q235 z.2.1 /\ Kd.wf q249 z.2.2.1 /\ Kd.wf q235 z.2.2.2.1 /\ True) -> I y z -> (decide (y.1 < (lnZ x.1)) = true -> (q56 <= y.1 /\ y.1 <= (lnZ x.1)) /\ lenB
  (List.drop (Int.toNat y.1) x.1) <= q103 /\ (∀ (y_1 : q25), (q231 y_1) -> (y_1.1, y_1.2.1, y_1.2.2.1) = takeD (List.drop (Int.toNat y.1) x.1) -> q93 <= q89 /\ (decide (y_1.2.2.1 ≠ q56) =
  true -> z.2.1 = List.map (fun (x : q28) => x.2) (rowD x.1).1 /\ z.1 = List.map (fun (x : q28) => x.1) (rowD x.1).1 /\ (y.1, y_1.2.2.1) = (rowD x.1).2) /\ (decide (y_1.2.2.1 ≠ q56) = false
  -> q91 < q93 /\ (List.length z.2.1 + List.length [(y_1.1.1, y_1.1.2)]) * (32 : Nat) <= q152 /\ List.length z.2.1 + List.length [(y_1.1.1, y_1.1.2)] <= q151 /\ q91 < q59 /\ (List.length z.1
  + List.length [y.1]) * q554 <= q152 /\ List.length z.1 + List.length [y.1] <= q151 /\ x.1 = x.1 /\ I (wrZ (y.1 + y_1.2.1), y.2.1, y.2.2.1, ()) (z.1 ++ [y.1], z.2.1 ++ [(y_1.1.1, y_1.1.2)],
  z.2.2.1, z.2.2.2.1, ()) /\ μ (wrZ (y.1 + y_1.2.1), y.2.1, y.2.2.1, ()) (z.1 ++ [y.1], z.2.1 ++ [(y_1.1.1, y_1.1.2)], z.2.2.1, z.2.2.2.1, ()) < μ y z)) /\ True) /\ (decide (y.1 < (lnZ x.1))
  = false -> z.2.1 = List.map (fun (x : q28) => x.2) (rowD x.1).1 /\ z.1 = List.map (fun (x : q28) => x.1) (rowD x.1).1 /\ (y.1, q56) = (rowD x.1).2)
theorem e124 : t124 = Con.vc c_r01_Row GL (mkEnv ty [(90, conSem c_r01_Take)] [] [] [0, 2, 3, 4, 5, 6, 7, 8, 9, 10, 11, 15, 25]) {} Tryz.f124.ntmps Tryz.f124.results.toList (bodyOf Tryz.f124) := by kernel_rfl
theorem k124 : t124 := by
  unfold t124
  delta q6 q165 q103 q236 q56 q27 q248 q249 q235 lnZ q25 q231 q93 q89 q28 q91 q152 q151 q59 q554 wrZ wyZ wiZ q566 q478
  rintro ⟨b, _⟩ hx hp
  have hp : b.length ≤ 1000000000 := hp
  have hb : Bys b := sl_bys hx.1
  try dsimp +instances only [dft_int, dft_sl, dft_str]
  simp only [true_and, and_true, eq_self_iff_true, implies_true, reduceCtorEq, false_implies, true_implies, decide_eq_true_eq, decide_eq_false_iff_not, beq_self_eq_true, Bool.not_eq_true', ne_eq, Decidable.not_not, List.nil_append, List.length_singleton, List.length_cons, List.length_nil, Nat.zero_add, Nat.add_zero, Nat.mul_one, and_self, beq_iff_eq, Bool.not_true, Bool.not_false, Bool.not_eq_false', Bool.cond_false_right, Bool.and_eq_true, imp_self, Bool.not_eq_true, Bool.cond_true_left, Bool.or_eq_true]
  refine ⟨fun y z => 0 ≤ y.1 ∧ y.1 ≤ b.length ∧ (z.1 : List Int).length ≤ y.1 ∧ ∃ (k : Nat) (pre : List (Int × EltT)), (b.length : Int) - y.1 ≤ k ∧ rowD b = (pre ++ (rowR b k y.1).1, (rowR b k y.1).2) ∧ z.2.1 = pre.map (·.2) ∧ z.1 = pre.map (·.1), fun y _ => ((b.length : Int) - y.1).toNat, ⟨Int.le_refl 0, by simp only; omega, by simp, b.length, [], by simp only; omega, rfl, rfl, rfl⟩, ?_⟩
  rintro ⟨i, u1, u2, _⟩ ⟨ps, out, v1, v2, _⟩ _ _ ⟨i0, i1, hl, k, pre, hk, hr, eout, eps⟩
  simp only at i0 i1 hl hk hr eout eps ⊢
  have hlo : out.length = ps.length := by rw [eout, eps, List.length_map, List.length_map]
  refine ⟨fun hlt => ⟨⟨i0, by omega⟩, by rw [lenB, List.length_drop]; omega, ?_⟩, fun hge => ?_⟩
  . rintro ⟨⟨t, c⟩, n, e, _⟩ _ eT
    simp only at eT ⊢
    obtain ⟨m, rfl⟩ : ∃ m, k = m + 1 := ⟨k - 1, by omega⟩
    have hbd : Bys (b.drop i.toNat) := bys_drop hb _
    refine ⟨by decide, fun he => ?_, fun he => ?_⟩
    . have bad : (takeD (b.drop i.toNat)).2.2 ≠ 0 := by rw [← eT]; exact he
      rw [row_bad b m i hlt bad, ← eT] at hr
      rw [hr]
      simp only [List.append_nil]
      exact ⟨eout, eps, by trivial⟩
    . subst he
      have ok : (takeD (b.drop i.toNat)).2.2 = 0 := by rw [← eT]
      have h2 := take_ok hbd ok
      rw [row_step b m i hlt ok] at hr
      rw [← eT] at h2 hr
      simp only at h2 hr
      rw [List.length_drop] at h2
      rw [wrapK (i + n) (by omega) (by omega)]
      refine ⟨by decide, by omega, by omega, by decide, by omega, by omega, ⟨by omega, by omega, by rw [List.length_append, List.length_singleton]; omega, m, pre ++ [(i, (t, c))], by omega, ?_, ?_, ?_⟩, by omega⟩
      . rw [hr]; simp
      . rw [eout]; simp
      . rw [eps]; simp
  . rw [row_end b k i hge] at hr
    rw [hr]
    simp only [List.append_nil]
    exact ⟨eout, eps, by trivial⟩
theorem h124 : c_r01_Row.ok Tryz.prog GL 124 := con_ok (H := {}) (mkEnv_ok (gl := GL) (l := [(90, conSem c_r01_Take)]) (q := []) (d := []) _ tyOk (by kernel_rfl) ⟨h90.call, trivial⟩ trivial trivial) (by kernel_rfl) (by kernel_rfl) (Eq.mp e124 k124)
def t106 : Prop :=
  ∀ (x : q6), (q165 x) -> lenB x.1 <= q103 -> lenB x.1 <= q103 /\ (∀ (y : List q236 × List Int × Int × Int × Unit), (Kd.wf q235 y.1 /\ Kd.wf q249 y.2.1 /\ wiZ y.2.2.1 /\ wiZ y.2.2.2.1 /\
  True) -> y.1 = List.map (fun (x : q28) => x.2) (rowD x.1).1 /\ y.2.1 = List.map (fun (x : q28) => x.1) (rowD x.1).1 /\ (y.2.2.1, y.2.2.2.1) = (rowD x.1).2 -> (decide (y.2.2.2.1 ≠ q56) =
  true -> ([], y.2.2.1, y.2.2.2.1) = allD x.1) /\ (decide (y.2.2.2.1 ≠ q56) = false -> (y.1, y.2.2.1, q56) = allD x.1)) /\ True
theorem e106 : t106 = Con.vc c_r01_All GL (mkEnv ty [(124, conSem c_r01_Row)] [] [] [0, 2, 3, 4, 5, 7, 8, 17]) {} Tryz.f106.ntmps Tryz.f106.results.toList (bodyOf Tryz.f106) := by kernel_rfl
theorem k106 : t106 := by
  unfold t106
  delta q6 q165 q103 q236 q235 q249 wiZ q28 q56 wyZ q478 q566
  rintro ⟨b, _⟩ hx hp
  have hp : b.length ≤ 1000000000 := hp
  try dsimp +instances only [dft_int, dft_sl, dft_str]
  simp only [true_and, and_true, eq_self_iff_true, implies_true, reduceCtorEq, false_implies, true_implies, decide_eq_true_eq, decide_eq_false_iff_not, beq_self_eq_true, Bool.not_eq_true', ne_eq, Decidable.not_not, List.nil_append, List.length_singleton, List.length_cons, List.length_nil, Nat.zero_add, Nat.add_zero, Nat.mul_one, and_self, beq_iff_eq, Bool.not_true, Bool.not_false, Bool.not_eq_false', Bool.cond_false_right, Bool.and_eq_true, imp_self, Bool.not_eq_true, Bool.cond_true_left, Bool.or_eq_true]
  refine ⟨hp, ?_⟩
  rintro ⟨l, ps, n, e, _⟩ _ ⟨h1, h2, h3⟩
  simp only at h1 h2 h3 ⊢
  refine ⟨fun he => ?_, fun he => ?_⟩
  . rw [allD, ← h3, if_pos he]
  . rw [allD, ← h3, if_neg (fun h => h he), h1]
theorem h106 : c_r01_All.ok Tryz.prog GL 106 := con_ok (H := {}) (mkEnv_ok (gl := GL) (l := [(124, conSem c_r01_Row)]) (q := []) (d := []) _ tyOk (by kernel_rfl) ⟨h124.call, trivial⟩ trivial trivial) (by kernel_rfl) (by kernel_rfl) (Eq.mp e106 k106)
end Go.Proofs.YtgnlcpoeepfdoaaGreatDoor
end
section
namespace Go.Proofs.YtgnlcpoeepfdoaaGreatDoor
open Go Go.Vc Go.Pl Go.Proofs
def c_r03_May : Con := { args := [.dat (.sl I64)], res := [.dat .bool], pre := fun _ => True, post := fun x y => y.1 = mayO x.1 }
def c_r03_Number : Con := { args := [.dat I64], res := [.own 5 U8], pre := fun x => 0 ≤ x.1 ∧ x.1 ≤ 2147483647, post := fun x y => y.1 = numO x.1 }
def c_r03_Encode : Con := { args := [.dat (.sl I64)], res := [.own 5 U8, .dat I64], pre := fun _ => True, post := fun x y => (y.1, y.2.1) = EncO x.1 }
end Go.Proofs.YtgnlcpoeepfdoaaGreatDoor
end
section
namespace Go.Proofs.YtgnlcpoeepfdoaaGreatDoor
open Go Go.Vc Go.Pl Go.Proofs
set_option linter.unusedVariables false
set_option linter.unusedSimpArgs false
abbrev q525 (p0 : q6) (p1 : q10) := (List.getD p0.1 (Int.toNat p1.1) (Kd.dft q566) < q557)
abbrev q250 (p0 : q6) (p1 : q10) := (decide (q525 p0 p1) = false -> (decide (q525 p0 p1) == false) = true /\ True)
abbrev q526 := (Kd.dft q566)
abbrev q251 (p0 : q6) (p1 : q10) := (bif decide (q525 p0 p1) then true else decide ((2147483647 : Int) < List.getD p0.1 (q507 p1) q526))
abbrev q252 (p0 : q6) (p1 : q10) := (decide (q525 p0 p1) == false)
abbrev q253 (p0 : q6) (p1 : q10) := (List.getD p0.1 (q507 p1) q526 < q452)
abbrev q254 (p0 : q10) (p1 : q6) := (q452 <= p0.1 /\ p0.1 < (lnZ p1.1))
abbrev q255 := (Kd.dft q566)
abbrev q256 (p0 : q1) := (wrZ ((128 : Int) + Int.tmod p0.1 (128 : Int)))
abbrev q257 (p0 : q6) := (wrZ ((40 : Int) * List.getD p0.1 q477 q526) + List.getD p0.1 q556 q526)
abbrev q258 (p0 : q6) (p1 : q6) := (List.length p0.1 + List.length p1.1)
def t108 : Prop :=
  ∀ (x : q6), (Kd.wf q249 x.1 /\ True) -> True -> (decide ((lnZ x.1) < q94) = false -> True) /\ (decide ((lnZ x.1) < q94) = false -> (decide ((lnZ x.1) < q94) == false) = true /\ True) /\
  (decide ((lnZ x.1) < q94) = false -> (decide ((lnZ x.1) < q94) == false) = true /\ True) /\ (decide ((lnZ x.1) < q94) = false -> (decide ((lnZ x.1) < q94) == false) = true) /\ ((bif decide
  ((lnZ x.1) < q94) then true else decide ((20 : Int) < (lnZ x.1))) = true -> false = mayO x.1) /\ ((bif decide ((lnZ x.1) < q94) then true else decide ((20 : Int) < (lnZ x.1))) = false -> ∃
  (I : q8), ∃ (μ : q9), (Value.bool false = Value.bool false /\ x.1 = x.1 /\ I (q56, false, ()) ()) /\ ∀ (y : q10) (z : Unit), (q102 y) -> True -> I y z -> (decide (y.1 < (lnZ x.1)) = true ->
  (q254 y x) /\ (decide (q253 x y) = false -> True) /\ (decide (q253 x y) = false -> True) /\ (decide (q253 x y) = false -> (q252 x y) = true /\ (q252 x y) = true /\ (q254 y x) /\ True) /\
  (q250 x y) /\ (q250 x y) /\ (decide (q253 x y) = false -> (q252 x y) = true) /\ ((q251 x y) = true -> false = mayO x.1) /\ ((q251 x y) = false -> Value.bool false = Value.bool false /\ x.1
  = x.1 /\ I (wrZ (q104 y), y.2.1, ()) () /\ μ (wrZ (q104 y), y.2.1, ()) () < μ y z)) /\ (decide (y.1 < (lnZ x.1)) = false -> (q84 x) /\ (decide (q94 < List.getD x.1 q91 q255) = true -> false
  = mayO x.1) /\ (decide (q94 < List.getD x.1 q91 q255) = false -> (q84 x) /\ (decide (List.getD x.1 q91 q255 < q94) = true -> (q85 x) /\ decide (List.getD x.1 q59 q255 <= (39 : Int)) = mayO
  x.1) /\ (decide (List.getD x.1 q91 q255 < q94) = false -> (q85 x) /\ decide (List.getD x.1 q59 q255 <= (2147483567 : Int)) = mayO x.1))))
theorem e108 : t108 = Con.vc c_r03_May GL (mkEnv ty [] [] [] [0, 2, 3, 11, 15, 29, 33, 37]) {} Tryz.f108.ntmps Tryz.f108.results.toList (bodyOf Tryz.f108) := by kernel_rfl
theorem k108 : t108 := by
  unfold t108
  delta q6 q249 lnZ q94 q8 q9 q56 q10 q102 q254 q253 q252 q250 q251 wrZ q104 q84 q91 q255 q85 q59 q566 wiZ wbZ q452 q507 q526 q525 q491 q557
  rintro ⟨l, _⟩ hx hp
  try dsimp +instances only [dft_int, dft_sl, dft_str]
  simp only [true_and, and_true, eq_self_iff_true, implies_true, reduceCtorEq, false_implies, true_implies, decide_eq_true_eq, decide_eq_false_iff_not, beq_self_eq_true, Bool.not_eq_true', ne_eq, Decidable.not_not, List.nil_append, List.length_singleton, List.length_cons, List.length_nil, Nat.zero_add, Nat.add_zero, Nat.mul_one, and_self, beq_iff_eq, Bool.not_true, Bool.not_false, Bool.not_eq_false', Bool.cond_false_right, Bool.and_eq_true, imp_self, Bool.not_eq_true, Bool.cond_true_left, Bool.or_eq_true]
  refine ⟨fun h => (may_len h).symm, fun h => ?_⟩
  simp only [Bool.or_eq_false_iff, decide_eq_false_iff_not] at h
  refine ⟨fun y _ => 0 ≤ y.1 ∧ y.1 ≤ l.length ∧ ∀ j, j < y.1.toNat → 0 ≤ l.getD j 0 ∧ l.getD j 0 ≤ 2147483647, fun y _ => ((l.length : Int) - y.1).toNat, ⟨Int.le_refl 0, by simp only; omega, fun j hj => by simp at hj⟩, ?_⟩
  rintro ⟨i, b, _⟩ _ _ ⟨i0, i1, i2⟩
  simp only at i0 i1 i2 ⊢
  have hw1 : IntKind.wrap .i64 (i + 1) = i + 1 := wrapK _ (by omega) (by omega)
  rw [hw1]
  refine ⟨fun hlt => ⟨⟨i0, hlt⟩, fun hn => ⟨hn, hn, i0, hlt⟩, fun hb => (may_in (by omega) hb).symm, fun hg => ⟨⟨by omega, by omega, fun j hj => ?_⟩, by omega⟩⟩, fun hge => ?_⟩
  . simp only [Bool.or_eq_false_iff, decide_eq_false_iff_not] at hg
    by_cases hji : j < i.toNat
    . exact i2 j hji
    . rw [show j = i.toNat by omega]; omega
  . have hr := may_rest (l := l) (by omega) (by omega) (fun j hj => i2 j (by omega))
    have h0 := i2 0 (by omega)
    rw [hr]
    refine ⟨⟨by omega, by omega⟩, fun e => by rw [if_neg (by omega), if_neg (by omega)], fun e0 => ⟨⟨by omega, by omega⟩, fun e => ⟨⟨by omega, by omega⟩, by rw [if_pos (by omega)]; exact decide_eq_decide.2 (by omega)⟩, fun e1 => ⟨⟨by omega, by omega⟩, by rw [if_neg (by omega), if_pos (by omega)]⟩⟩⟩
theorem h108 : c_r03_May.ok Tryz.prog GL 108 := con_ok (H := {}) (mkEnv_ok (gl := GL) (l := []) (q := []) (d := []) _ tyOk (by kernel_rfl) trivial trivial trivial) (by kernel_rfl) (by kernel_rfl) (Eq.mp e108 k108)
def t109 : Prop :=
  ∀ (x : q1), (q52 x) -> q56 <= x.1 /\ x.1 <= (2147483647 : Int) -> q115 ≠ q56 /\ q115 ≠ q56 /\ ∃ (I : q18), ∃ (μ : q19), (Value.slice none q91 q91 = Value.slice none q91 q91 /\ I (wrZ
  (Int.tdiv x.1 q115), ()) ([IntKind.wrap IntKind.u8 (Int.tmod x.1 q115)], ())) /\ ∀ (y : q1) (z : q6), (q52 y) -> (q165 z) -> I y z -> (decide (q160 y) = true -> q115 ≠ q56 /\ q91 < q59 /\
  (List.length [IntKind.wrap IntKind.u8 (q256 y)] + List.length z.1) * q59 <= q152 /\ List.length [IntKind.wrap IntKind.u8 (q256 y)] + List.length z.1 <= q151 /\ q115 ≠ q56 /\ Value.slice
  none q91 q91 = Value.slice none q91 q91 /\ I (wrZ (Int.tdiv y.1 q115), ()) ([IntKind.wrap IntKind.u8 (q256 y)] ++ z.1, ()) /\ μ (wrZ (Int.tdiv y.1 q115), ()) ([IntKind.wrap IntKind.u8 (q256
  y)] ++ z.1, ()) < μ y z) /\ (decide (q160 y) = false -> z.1 = numO x.1)
theorem e109 : t109 = Con.vc c_r03_Number GL (mkEnv ty [] [] [] [0, 2, 3, 11]) {} Tryz.f109.ntmps Tryz.f109.results.toList (bodyOf Tryz.f109) := by kernel_rfl
theorem k109 : t109 := by
  unfold t109
  delta q1 q52 q56 q115 q18 q19 q91 wrZ q6 q165 q160 q59 q256 q152 q151 wiZ wyZ q452
  rintro ⟨n, _⟩ hx hp
  obtain ⟨p1, p2⟩ := hp
  simp only at p1 p2
  have h4 := small4 p2
  try dsimp +instances only [dft_int, dft_sl, dft_str]
  simp only [true_and, and_true, eq_self_iff_true, implies_true, reduceCtorEq, false_implies, true_implies, decide_eq_true_eq, decide_eq_false_iff_not, beq_self_eq_true, Bool.not_eq_true', ne_eq, Decidable.not_not, List.nil_append, List.length_singleton, List.length_cons, List.length_nil, Nat.zero_add, Nat.add_zero, Nat.mul_one, and_self, beq_iff_eq, Bool.not_true, Bool.not_false, Bool.not_eq_false', Bool.cond_false_right, Bool.and_eq_true, imp_self, Bool.not_eq_true, Bool.cond_true_left, Bool.or_eq_true]
  have hd : ∀ m : Int, 0 ≤ m → m ≤ 2147483647 → IntKind.wrap .i64 (m.tdiv 128) = m / 128 := fun m h0 h1 => by
    rw [Int.tdiv_eq_ediv_of_nonneg h0, wrapK _ (by omega) (by omega)]
  have hm : ∀ m : Int, 0 ≤ m → m.tmod 128 = m % 128 := fun m h0 => Int.tmod_eq_emod_of_nonneg h0
  rw [hd n p1 p2, hm n p1]
  refine ⟨by decide, by decide, fun y z => ∃ j : Nat, j ≤ 4 ∧ y.1 = n / 128 ^ (j + 1) ∧ z.1 = hiD j n ++ [n % 128] ∧ (0 < j → 0 < n / 128 ^ j), fun y _ => y.1.toNat, ⟨0, by omega, by simp, by simp only [hiD, List.nil_append]; rw [wrap_u8]; congr 1; omega, fun h => absurd h (by omega)⟩, ?_⟩
  rintro ⟨y, _⟩ ⟨z, _⟩ _ _ ⟨j, j4, ey, ez, hj⟩
  simp only at ey ez ⊢
  subst ez
  have e1 := pow_div n j j4
  have hb : 0 ≤ y ∧ y ≤ 2147483647 := by
    have : j = 0 ∨ j = 1 ∨ j = 2 ∨ j = 3 ∨ j = 4 := by omega
    rcases this with rfl | rfl | rfl | rfl | rfl <;> simp only [Nat.reduceAdd, Int.reducePow] at ey <;> omega
  refine ⟨fun hlt => ?_, fun hge => ?_⟩
  . have : j < 4 := by
      rcases Nat.lt_or_ge j 4 with h | h
      . exact h
      . rw [show j = 4 by omega] at e1 ey; omega
    rw [hd y hb.1 hb.2, hm y hb.1, wrapK (128 + y % 128) (by omega) (by omega)]
    have hl : (hiD j n ++ [n % 128]).length ≤ 5 := by rw [List.length_append, hi_length]; simp; omega
    refine ⟨by decide, by decide, by omega, by omega, by decide, ⟨j + 1, by omega, ?_, ?_, fun _ => by rw [← ey]; exact hlt⟩, by omega⟩
    . rw [pow_div n (j + 1) (by omega), ← ey]
    . rw [hiD, ← ey, wrap_u8]
      simp only [List.cons_append, List.nil_append]
      congr 1
      omega
  . have hN : hiN n = j := hi_is p1 j4 (by omega) hj
    rw [numO, hN]
theorem h109 : c_r03_Number.ok Tryz.prog GL 109 := con_ok (H := {}) (mkEnv_ok (gl := GL) (l := []) (q := []) (d := []) _ tyOk (by kernel_rfl) trivial trivial trivial) (by kernel_rfl) (by kernel_rfl) (Eq.mp e109 k109)
def t93 : Prop :=
  ∀ (x : q6), (Kd.wf q249 x.1 /\ True) -> True -> True /\ (∀ (y : q4), (q67 y) -> y.1 = mayO x.1 -> ((!y.1) = true -> ([], q94) = EncO x.1) /\ ((!y.1) = false -> (q84 x) /\ (q85 x) /\ (q56 <=
  wrZ (q257 x) /\ wrZ (q257 x) <= (2147483647 : Int)) /\ (∀ (y : q6), (q165 y) -> y.1 = numO (wrZ (q257 x)) -> ∃ (I : q18), ∃ (μ : q19), (Value.bool false = Value.bool false /\ q56 = q56 /\
  Value.slice none q91 q91 = Value.slice none q91 q91 /\ x.1 = x.1 /\ I (q94, ()) (y.1, ())) /\ ∀ (y : q1) (z : q6), (q52 y) -> (q165 z) -> I y z -> (decide (y.1 < (lnZ x.1)) = true -> (q56
  <= y.1 /\ y.1 < (lnZ x.1)) /\ (q56 <= List.getD x.1 (q58 y) q255 /\ List.getD x.1 (q58 y) q255 <= (2147483647 : Int)) /\ (∀ (y_1 : q6), (q165 y_1) -> y_1.1 = numO (List.getD x.1 (q58 y)
  q255) -> q91 < q59 /\ (q258 z y_1) * q59 <= q152 /\ List.length z.1 + List.length y_1.1 <= q151 /\ Value.bool false = Value.bool false /\ q56 = q56 /\ Value.slice none q91 q91 = Value.slice
  none q91 q91 /\ x.1 = x.1 /\ I (wrZ (q159 y), ()) (z.1 ++ y_1.1, ()) /\ μ (wrZ (q159 y), ()) (z.1 ++ y_1.1, ()) < μ y z) /\ True) /\ (decide (y.1 < (lnZ x.1)) = false -> (z.1, q56) = EncO
  x.1)) /\ True)) /\ True
theorem e93 : t93 = Con.vc c_r03_Encode GL (mkEnv ty [(108, conSem c_r03_May), (109, conSem c_r03_Number)] [] [] [0, 2, 3, 4, 5, 8, 21]) {} Tryz.f93.ntmps Tryz.f93.results.toList (bodyOf Tryz.f93) := by kernel_rfl
theorem k93 : t93 := by
  unfold t93
  delta q6 q249 q4 q67 q94 q84 q85 q56 wrZ q257 q165 q18 q19 q91 q1 q52 lnZ q58 q255 q59 q258 q152 q151 q159 q566 wbZ q452 q491 q477 q526 q556 wyZ wiZ
  rintro ⟨l, _⟩ hx hp
  try dsimp +instances only [dft_int, dft_sl, dft_str]
  simp only [true_and, and_true, eq_self_iff_true, implies_true, reduceCtorEq, false_implies, true_implies, decide_eq_true_eq, decide_eq_false_iff_not, beq_self_eq_true, Bool.not_eq_true', ne_eq, Decidable.not_not, List.nil_append, List.length_singleton, List.length_cons, List.length_nil, Nat.zero_add, Nat.add_zero, Nat.mul_one, and_self, beq_iff_eq, Bool.not_true, Bool.not_false, Bool.not_eq_false', Bool.cond_false_right, Bool.and_eq_true, imp_self, Bool.not_eq_true, Bool.cond_true_left, Bool.or_eq_true]
  simp only [all_bool]
  refine ⟨fun h => by rw [EncO, h]; rfl, fun h => ?_⟩
  obtain ⟨h1, h2, h3, h4, h5⟩ := may_args h
  have hg : ∀ i, i < l.length → 0 ≤ l.getD i 0 ∧ l.getD i 0 ≤ 2147483647 := fun i hi => h3 _ (by
    rw [List.getD_eq_getElem?_getD, List.getElem?_eq_getElem hi]
    exact List.getElem_mem _)
  have g0 := hg 0 (by omega)
  have g1 := hg 1 (by omega)
  rw [wrapK (40 * l.getD 0 0) (by omega) (by omega), wrapK (40 * l.getD 0 0 + l.getD 1 0) (by omega) (by omega)]
  refine ⟨⟨by omega, by omega⟩, ⟨by omega, by omega⟩, ⟨h4, h5⟩, ?_⟩
  rintro ⟨a, _⟩ _ ea
  simp only at ea ⊢
  refine ⟨fun y z => 2 ≤ y.1 ∧ y.1 ≤ l.length ∧ z.1 = encP l y.1.toNat, fun y _ => ((l.length : Int) - y.1).toNat, ⟨by simp, by simp only; omega, by rw [ea]; exact (encP_two l).symm⟩, ?_⟩
  rintro ⟨i, _⟩ ⟨z, _⟩ _ _ ⟨i0, i1, ez⟩
  simp only at i0 i1 ez ⊢
  have hw1 : IntKind.wrap .i64 (i + 1) = i + 1 := wrapK _ (by omega) (by omega)
  rw [hw1]
  refine ⟨fun hlt => ⟨⟨by omega, hlt⟩, hg i.toNat (by omega), ?_⟩, fun hge => ?_⟩
  . rintro ⟨c, _⟩ _ ec
    simp only at ec ⊢
    have l1 := encP_len l i.toNat
    have l2 := num_length (l.getD i.toNat 0)
    rw [← ez] at l1
    rw [← ec] at l2
    refine ⟨by decide, by omega, by omega, ⟨by omega, by omega, ?_⟩, by omega⟩
    rw [show (i + 1).toNat = i.toNat + 1 by omega, encP_step (by omega) (by omega), ez, ec]
  . rw [EncO, h, if_pos rfl, ez, encP_all (by omega)]
theorem h93 : c_r03_Encode.ok Tryz.prog GL 93 := con_ok (H := {}) (mkEnv_ok (gl := GL) (l := [(108, conSem c_r03_May), (109, conSem c_r03_Number)]) (q := []) (d := []) _ tyOk (by kernel_rfl) ⟨h108.call, h109.call, trivial⟩ trivial trivial) (by kernel_rfl) (by kernel_rfl) (Eq.mp e93 k93)
end Go.Proofs.YtgnlcpoeepfdoaaGreatDoor
end
