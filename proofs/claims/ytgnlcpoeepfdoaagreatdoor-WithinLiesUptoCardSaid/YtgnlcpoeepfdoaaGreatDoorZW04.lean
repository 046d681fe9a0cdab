/- Texts of a verified walk, led together: DerA, DerW, DerrA, DerrW, OidA, OidW. -/
import Derived.Test.YtgnlcpoeepfdoaaGreatDoorZW03
import Derived.Test.YtgnlcpoeepfdoaaGreatDoorZV09
import Derived.Test.YtgnlcpoeepfdoaaGreatDoorZV08
set_option linter.unusedVariables false
set_option linter.unusedSimpArgs false
section
namespace Go.Proofs.YtgnlcpoeepfdoaaGreatDoor
open Go Go.Vc Go.Pl Go.Proofs
def c_der_isTag : Con := { args := [.dat I64], res := [.dat .bool], pre := fun _ => True, post := fun x y => y.1 = isTagD x.1 }
def c_der_length : Con := { args := [.dat I64], res := [.own 5 U8], pre := fun x => 0 ≤ x.1 ∧ x.1 ≤ 16777215, post := fun x y => y.1 = lngD x.1 }
def c_slices_Clone_byte_byte : Con := { args := [.dat BY], res := [.dat BY], pre := fun x => lenB x.1 ≤ 1000000000, post := fun x y => y.1 = x.1 }
def c_der_head : Con := { args := [.dat BY], res := [.dat I64, .dat I64, .dat I64, .dat I64], pre := fun x => lenB x.1 ≤ 1000000000, post := fun x y => (y.1, y.2.1, y.2.2.1, y.2.2.2.1) = headK x.1 }
def c_der_Take : Con := { args := [.dat BY], res := [.dat ET, .dat I64, .dat I64], pre := fun x => lenB x.1 ≤ 1000000000, post := fun x y => (y.1, y.2.1, y.2.2.1) = takeD x.1 }
def c_der_One : Con := { args := [.dat BY], res := [.dat ET, .dat I64], pre := fun x => lenB x.1 ≤ 1000000000, post := fun x y => (y.1, y.2.1) = oneD x.1 }
def c_der_Size : Con := { args := [.dat I64], res := [.dat I64], pre := fun _ => True, post := fun x y => y.1 = sizeD x.1 }
def c_der_All : Con := { args := [.dat BY], res := [.own 129 ET, .dat I64, .dat I64], pre := fun x => lenB x.1 ≤ 1000000000, post := fun x y => (y.1, y.2.1, y.2.2.1) = allD x.1 }
end Go.Proofs.YtgnlcpoeepfdoaaGreatDoor
end
section
namespace Go.Proofs.YtgnlcpoeepfdoaaGreatDoor
open Go Go.Vc Go.Pl Go.Proofs
set_option linter.unusedVariables false
set_option linter.unusedSimpArgs false
abbrev q25 := (Int × Int × Int × Int × Unit)
abbrev q26 := ((Int × List Int) × Int × Int × Unit)
abbrev q444 (p0 : q1) := (bif decide (q547 <= p0.1) then decide (p0.1 <= (255 : Int)) else false)
abbrev q196 (p0 : q1) := ((q444 p0) = true -> ((q444 p0) == true) = true /\ True)
abbrev q554 (p0 : q6) := (wrZ (List.getD p0.1 q578 q583) - (128 : Int))
abbrev q495 (p0 : q6) := (bif decide (wrZ (q554 p0) = q547) then true else decide ((3 : Int) < wrZ (q554 p0)))
abbrev q452 (p0 : q6) := ((2 : Int) < (lnZ p0.1))
abbrev q197 (p0 : q6) := (((q495 p0) == false && (q495 p0) == false) = true -> decide (q452 p0) = true -> ((q495 p0) == false && (q495 p0) == false && decide (q452 p0) == true) = true /\
  True)
abbrev q198 (p0 : q6) := ((q495 p0) == false && (q495 p0) == false && decide (q452 p0) == true)
abbrev q445 (p0 : q6) := ((bif decide (wrZ (q554 p0) = q547) then true else decide ((3 : Int) < wrZ (q554 p0))) == false)
abbrev q199 (p0 : q6) := ((q495 p0) = false -> (q445 p0) = true /\ True)
abbrev q200 (p0 : q6) := ((q495 p0) == false && (q495 p0) == false)
abbrev q496 (p0 : q6) := (wrZ (q554 p0) = q547)
abbrev q497 (p0 : q6) := ((3 : Int) < wrZ (q554 p0))
abbrev q201 (p0 : q6) := (bif bif decide (q496 p0) then true else decide (q497 p0) then true else bif decide (q452 p0) then decide (List.getD p0.1 (2 : Nat) q479 = q424) else false)
abbrev q553 (p0 : q6) := (Int.toNat (wrZ ((2 : Int) + wrZ (wrZ (List.getD p0.1 q578 q583) - (128 : Int)))))
abbrev q498 (p0 : q6) := (List.drop (2 : Nat) (List.take (q553 p0) p0.1))
abbrev q202 (p0 : q7) (p1 : q6) := (↑(BitVec.toNat (BitVec.ofInt (64 : Nat) (wrZ (p0.2.1 * q478 ^ q545)) ||| BitVec.ofInt (64 : Nat) (wrZ (List.getD (q498 p1) (Int.toNat p0.1) q479)))) :
  Int)
abbrev q203 (p0 : q6) := ((q495 p0) = false -> True)
abbrev q204 (p0 : q6) := (bif decide (q496 p0) then true else decide (q497 p0))
abbrev q205 (p0 : q7) (p1 : q6) := (p0.1 < (lnZ (q498 p1)))
abbrev q206 (p0 : q6) := (lnZ (q498 p0))
abbrev q207 (p0 : q6) := (List.take (q553 p0) p0.1)
abbrev q208 (p0 : q6) := (decide (q496 p0) == false)
abbrev q209 (p0 : q6) := ((lnZ p0.1) < wrZ ((2 : Int) + wrZ (wrZ (List.getD p0.1 q578 q583) - (128 : Int))))
abbrev q210 (p0 : q6) := (wrZ (q554 p0) = q424)
abbrev q211 (p0 : q6) := (q478 + wrZ (q554 p0))
abbrev q499 (p0 : q6) := (List.getD p0.1 q578 q583)
abbrev q212 (p0 : q6) := (wrZ (q499 p0) - (128 : Int))
abbrev q213 (p0 : q6) := (List.getD p0.1 q450 q479)
abbrev q214 (p0 : q6) := (List.getD p0.1 q578 q479)
abbrev q215 (p0 : q6) := (q478 < (lnZ p0.1))
abbrev q446 (p0 : q25) := (p0.2.2.2.1 = q547)
abbrev q216 (p0 : q25) := (decide (q446 p0) = true -> (decide (q446 p0) == true) = true /\ (decide (q446 p0) == true) = true /\ True)
abbrev q217 (p0 : q25) := (wiZ p0.1 /\ wiZ p0.2.1 /\ wiZ p0.2.2.1 /\ wiZ p0.2.2.2.1 /\ True)
abbrev q447 (p0 : q26) := (decide (p0.2.2.1 = q547) == true)
abbrev q218 (p0 : q26) := (decide (p0.2.2.1 = q424) = true -> (q447 p0) = true /\ (q447 p0) = true /\ True)
abbrev q451 := (Kd.pair q558 (Kd.sl (Kd.int IntKind.u8)))
abbrev q219 (p0 : q26) := (Kd.wf q451 p0.1 /\ wiZ p0.2.1 /\ wiZ p0.2.2.1 /\ True)
abbrev q220 (p0 : q26) := (p0.2.2.1 = q424)
abbrev q449 (p0 : q1) (p1 : q1) (p2 : q26) := (wrZ (p0.1 + p1.1) + (lnZ p2.1.2))
abbrev q500 (p0 : q26) (p1 : q6) (p2 : Int × Unit -> Unit × (Int × Unit) × (List Int × Unit) × List (Int × List Int) × Unit -> Prop) (p3 : q1) (p4 : Unit × (Int × Unit) × (List Int × Unit)
  × List (Int × List Int) × Unit) (p5 : Int × Unit -> Unit × (Int × Unit) × (List Int × Unit) × List (Int × List Int) × Unit -> Nat) := ((True /\ (∀ (y_2 : q1), (wiZ y_2.1 /\ True) -> y_2.1 =
  sizeD (lnZ p0.1.2) -> (((q547 = q547 /\ q547 = q547 /\ Value.slice none q557 q557 = Value.slice none q557 q557 /\ p1.1 = p1.1 /\ p2 (wrZ (p3.1 + p0.2.1), ()) ((), (wrZ (wrZ (p3.1 + y_2.1) +
  (lnZ p0.1.2)), ()), (p4.2.2.1.1, ()), p4.2.2.2.1 ++ [(p0.1.1, p0.1.2)], ()) /\ p5 (wrZ (p3.1 + p0.2.1), ()) ((), (wrZ (wrZ (p3.1 + y_2.1) + (lnZ p0.1.2)), ()), (p4.2.2.1.1, ()), p4.2.2.2.1
  ++ [(p0.1.1, p0.1.2)], ()) < p5 p3 p4) /\ True) /\ True) /\ True) /\ True) /\ True)
abbrev q221 (p0 : q26) (p1 : q6) (p2 : Int × Unit -> Unit × (Int × Unit) × (List Int × Unit) × List (Int × List Int) × Unit -> Prop) (p3 : q1) (p4 : Unit × (Int × Unit) × (List Int × Unit)
  × List (Int × List Int) × Unit) (p5 : Int × Unit -> Unit × (Int × Unit) × (List Int × Unit) × List (Int × List Int) × Unit -> Nat) := (((True /\ (∀ (y_2 : q1), (wiZ y_2.1 /\ True) -> y_2.1
  = sizeD (lnZ p0.1.2) -> ((((q424 = q424 /\ q424 = q424 /\ Value.slice none q450 q450 = Value.slice none q450 q450 /\ p1.1 = p1.1 /\ p2 (wrZ (p3.1 + p0.2.1), ()) ((), (wrZ (q449 p3 y_2 p0),
  ()), (p4.2.2.1.1, ()), p4.2.2.2.1 ++ [(p0.1.1, p0.1.2)], ()) /\ p5 (wrZ (p3.1 + p0.2.1), ()) ((), (wrZ (q449 p3 y_2 p0), ()), (p4.2.2.1.1, ()), p4.2.2.2.1 ++ [(p0.1.1, p0.1.2)], ()) < p5 p3
  p4) /\ True) /\ True) /\ True) /\ ((((q424 = q424 /\ q424 = q424 /\ Value.slice none q450 q450 = Value.slice none q450 q450 /\ p1.1 = p1.1 /\ p2 (wrZ (p3.1 + p0.2.1), ()) ((), (wrZ (q449 p3
  y_2 p0), ()), (p4.2.2.1.1, ()), p4.2.2.2.1 ++ [(p0.1.1, p0.1.2)], ()) /\ p5 (wrZ (p3.1 + p0.2.1), ()) ((), (wrZ (q449 p3 y_2 p0), ()), (p4.2.2.1.1, ()), p4.2.2.2.1 ++ [(p0.1.1, p0.1.2)],
  ()) < p5 p3 p4) /\ True) /\ True) /\ True) /\ True) /\ True) /\ (q500 p0 p1 p2 p3 p4 p5) /\ True) /\ ((q500 p0 p1 p2 p3 p4 p5) /\ True) /\ True)
abbrev q501 := (1000000000 : Nat)
abbrev q222 (p0 : Unit × (Int × Unit) × (List Int × Unit) × List (Int × List Int) × Unit) (p1 : q6) := (decide (p0.2.1.1 = (lnZ p1.1)) = false -> (q424 <= p0.2.1.1 /\ p0.2.1.1 <= (lnZ
  p1.1)) /\ lenB (List.drop (Int.toNat p0.2.1.1) p1.1) <= q501 /\ (∀ (y : q26), (Kd.wf q451 y.1 /\ wiZ y.2.1 /\ wiZ y.2.2.1 /\ True) -> (y.1, y.2.1, y.2.2.1) = takeD (List.drop (Int.toNat
  p0.2.1.1) p1.1) -> (2 : Nat) <= (65536 : Nat) /\ ([], p0.2.1.1, y.2.2.1) = allD p1.1) /\ True)
abbrev q223 := (Kd.sl q451)
abbrev q224 := (Int × List Int)
abbrev q448 (p0 : q26) (p1 : q6) (p2 : Int × Unit -> Unit × (Int × Unit) × q149 × List q224 × Unit -> Prop) (p3 : q1) (p4 : Unit × (Int × Unit) × q149 × List q224 × Unit) (p5 : Int × Unit
  -> Unit × (Int × Unit) × q149 × List q224 × Unit -> Nat) := ((True /\ (∀ (y_2 : q1), (wiZ y_2.1 /\ True) -> y_2.1 = sizeD (lnZ p0.1.2) -> (((q547 = q547 /\ q547 = q547 /\ Value.slice none
  q557 q557 = Value.slice none q557 q557 /\ p1.1 = p1.1 /\ p2 (wrZ (p3.1 + p0.2.1), ()) ((), (wrZ (wrZ (p3.1 + y_2.1) + (lnZ p0.1.2)), ()), (p4.2.2.1.1, ()), p4.2.2.2.1 ++ [(p0.1.1, p0.1.2)],
  ()) /\ p5 (wrZ (p3.1 + p0.2.1), ()) ((), (wrZ (wrZ (p3.1 + y_2.1) + (lnZ p0.1.2)), ()), (p4.2.2.1.1, ()), p4.2.2.2.1 ++ [(p0.1.1, p0.1.2)], ()) < p5 p3 p4) /\ True) /\ True) /\ True) /\
  True) /\ True)
def t154 : Prop :=
  ∀ (x : q1), (q38 x) -> True -> (decide (q41 x) = true -> True) /\ (decide (q41 x) = true -> (decide (q41 x) == true) = true /\ True) /\ (decide (q41 x) = true -> (decide (q41 x) == true) =
  true) /\ ((q444 x) = true -> True) /\ (q196 x) /\ (q196 x) /\ ((q444 x) = true -> ((q444 x) == true) = true) /\ (bif bif decide (q41 x) then decide (x.1 <= (255 : Int)) else false then
  decide (wrZ (↑(BitVec.toNat (BitVec.ofInt (64 : Nat) x.1 &&& BitVec.ofInt (64 : Nat) (31 : Int))) : Int) ≠ (31 : Int)) else false) = isTagD x.1
theorem e154 : t154 = Con.vc c_der_isTag GL (mkEnv ty [] [] [] [0, 2]) {} Tryz.f154.ntmps Tryz.f154.results.toList (bodyOf Tryz.f154) := by kernel_rfl
theorem k154 : t154 := by
  unfold t154
  delta q1 q38 q41 q444 q196 wrZ wiZ q424 q547
  rintro ⟨t, _⟩ hx hp
  try dsimp +instances only [dft_int, dft_sl, dft_str]
  simp only [true_and, and_true, eq_self_iff_true, implies_true, reduceCtorEq, false_implies, true_implies, decide_eq_true_eq, decide_eq_false_iff_not, beq_self_eq_true, Bool.not_eq_true', ne_eq, Decidable.not_not, List.nil_append, List.length_singleton, List.length_cons, List.length_nil, Nat.zero_add, Nat.add_zero, Nat.mul_one, and_self, beq_iff_eq, Bool.not_true, Bool.not_false, Bool.not_eq_false', Bool.cond_false_right, Bool.and_eq_true, imp_self, Bool.not_eq_true, Bool.cond_true_left, Bool.or_eq_true]
  exact isTag_eq t
theorem h154 : c_der_isTag.ok Tryz.prog GL 154 := con_ok (H := {}) (mkEnv_ok (gl := GL) (l := []) (q := []) (d := []) _ tyOk (by kernel_rfl) trivial trivial trivial) (by kernel_rfl) (by kernel_rfl) (Eq.mp e154 k154)
def t143 : Prop :=
  ∀ (x : q1), (q38 x) -> q42 <= x.1 /\ x.1 <= (16777215 : Int) -> (decide (x.1 < q101) = true -> [IntKind.wrap IntKind.u8 x.1] = lngD x.1) /\ (decide (x.1 < q101) = false -> (decide (x.1 <
  (256 : Int)) = true -> [(129 : Int), IntKind.wrap IntKind.u8 x.1] = lngD x.1) /\ (decide (x.1 < (256 : Int)) = false -> (decide (x.1 < (65536 : Int)) = true -> q42 <= q156 /\ [(130 : Int),
  IntKind.wrap IntKind.u8 (Int.fdiv x.1 (q80 ^ q545)), IntKind.wrap IntKind.u8 x.1] = lngD x.1) /\ (decide (x.1 < (65536 : Int)) = false -> q42 <= (16 : Int) /\ q42 <= q156 /\ [(131 : Int),
  IntKind.wrap IntKind.u8 (Int.fdiv x.1 (q80 ^ (16 : Nat))), IntKind.wrap IntKind.u8 (Int.fdiv x.1 (q80 ^ q545)), IntKind.wrap IntKind.u8 x.1] = lngD x.1)))
theorem e143 : t143 = Con.vc c_der_length GL (mkEnv ty [] [] [] [0, 2, 3, 9, 15]) {} Tryz.f143.ntmps Tryz.f143.results.toList (bodyOf Tryz.f143) := by kernel_rfl
theorem k143 : t143 := by
  unfold t143
  delta q1 q38 q42 q101 q156 q80 q545 wiZ
  rintro ⟨n, _⟩ hx hp
  obtain ⟨h0, h1⟩ := hp
  simp only at h0 h1
  try dsimp +instances only [dft_int, dft_sl, dft_str]
  simp only [true_and, and_true, eq_self_iff_true, implies_true, reduceCtorEq, false_implies, true_implies, decide_eq_true_eq, decide_eq_false_iff_not, beq_self_eq_true, Bool.not_eq_true', ne_eq, Decidable.not_not, List.nil_append, List.length_singleton, List.length_cons, List.length_nil, Nat.zero_add, Nat.add_zero, Nat.mul_one, and_self, beq_iff_eq, Bool.not_true, Bool.not_false, Bool.not_eq_false', Bool.cond_false_right, Bool.and_eq_true, imp_self, Bool.not_eq_true, Bool.cond_true_left, Bool.or_eq_true]
  have e8 := (fdiv_pow h0).1
  have e16 := (fdiv_pow h0).2
  rw [e8, e16, wrap_u8m, wrap_u8m, wrap_u8m]
  refine ⟨fun h => ?_, fun h => ⟨fun h2 => ?_, fun h2 => ⟨fun h3 => ⟨by decide, ?_⟩, fun h3 => ⟨by decide, by decide, ?_⟩⟩⟩⟩
  . rw [lngD, if_pos h, show n % 256 = n by omega]
  . rw [lngD, if_neg h, if_pos h2, show n % 256 = n by omega]
  . rw [lngD, if_neg h, if_neg h2, if_pos h3, show n / 256 % 256 = n / 256 by omega]
  . rw [lngD, if_neg h, if_neg h2, if_neg h3, show n / 65536 % 256 = n / 65536 by omega]
theorem h143 : c_der_length.ok Tryz.prog GL 143 := con_ok (H := {}) (mkEnv_ok (gl := GL) (l := []) (q := []) (d := []) _ tyOk (by kernel_rfl) trivial trivial trivial) (by kernel_rfl) (by kernel_rfl) (Eq.mp e143 k143)
def t141 : Prop :=
  ∀ (x : q6), (q153 x) -> lenB x.1 <= q89 -> ∀ (b : Bool), (b = true -> x.1 = []) -> (b = true -> [] = x.1) /\ (b = false -> q77 < q45 /\ (q77 + List.length x.1) * q45 <= q140 /\ q77 +
  List.length x.1 <= q139 /\ [] ++ x.1 = x.1)
theorem e141 : t141 = Con.vc c_slices_Clone_byte_byte GL (mkEnv ty [] [] [] [0, 2, 4]) {} Tryz.f141.ntmps Tryz.f141.results.toList (bodyOf Tryz.f141) := by kernel_rfl
theorem k141 : t141 := by
  unfold t141
  delta q6 q153 q89 q77 q45 q140 q139 wyZ
  rintro ⟨l, _⟩ hx hp
  have hp : l.length ≤ 1000000000 := hp
  try dsimp +instances only [dft_int, dft_sl, dft_str]
  simp only [true_and, and_true, eq_self_iff_true, implies_true, reduceCtorEq, false_implies, true_implies, decide_eq_true_eq, decide_eq_false_iff_not, beq_self_eq_true, Bool.not_eq_true', ne_eq, Decidable.not_not, List.nil_append, List.length_singleton, List.length_cons, List.length_nil, Nat.zero_add, Nat.add_zero, Nat.mul_one, and_self, beq_iff_eq, Bool.not_true, Bool.not_false, Bool.not_eq_false', Bool.cond_false_right, Bool.and_eq_true, imp_self, Bool.not_eq_true, Bool.cond_true_left, Bool.or_eq_true]
  intro b hb
  exact ⟨fun h => (hb h).symm, fun _ => ⟨by decide, by omega, by omega⟩⟩
theorem h141 : c_slices_Clone_byte_byte.ok Tryz.prog GL 141 := con_ok (H := {}) (mkEnv_ok (gl := GL) (l := []) (q := []) (d := []) _ tyOk (by kernel_rfl) trivial trivial trivial) (by kernel_rfl) (by kernel_rfl) (Eq.mp e141 k141)
def t140 : Prop :=
  ∀ (x : q6), (q153 x) -> lenB x.1 <= q89 -> (decide ((lnZ x.1) = q42) = true -> (q42, q42, q42, (10 : Int)) = headK x.1) /\ (decide ((lnZ x.1) = q42) = false -> (q70 x) /\ True /\ (∀ (y :
  q4), (q53 y) -> y.1 = isTagD (wrZ (q213 x)) -> ((!y.1) = true -> (q42, q42, q42, (11 : Int)) = headK x.1) /\ ((!y.1) = false -> (decide ((lnZ x.1) = q78) = true -> (q42, q42, q42, (10 :
  Int)) = headK x.1) /\ (decide ((lnZ x.1) = q78) = false -> (q71 x) /\ (decide (wrZ (q212 x) < q42) = true -> (q70 x) /\ (q71 x) /\ (wrZ (q213 x), q80, wrZ (q214 x), q42) = headK x.1) /\
  (decide (wrZ (q212 x) < q42) = false -> (decide (q210 x) = false -> True) /\ (decide (q210 x) = false -> (q208 x) = true /\ True) /\ (decide (q210 x) = false -> (q208 x) = true) /\ (q203 x)
  /\ (q199 x) /\ (q199 x) /\ (q203 x) /\ ((q200 x) = true -> decide (q215 x) = true -> True) /\ ((q200 x) = true -> decide (q215 x) = true -> (q198 x) = true /\ (q42 <= q80 /\ q80 < (lnZ
  x.1)) /\ True) /\ (q197 x) /\ (q197 x) /\ ((q204 x) = false -> (q200 x) = true /\ (decide (q215 x) = true -> (q198 x) = true) /\ True) /\ ((q204 x) = false -> (q445 x) = true) /\ ((q201 x)
  = true -> (q42, q42, q42, q76) = headK x.1) /\ ((q201 x) = false -> (decide (q209 x) = true -> (q42, q42, q42, (10 : Int)) = headK x.1) /\ (decide (q209 x) = false -> (q42 <= q80 /\ q80 <=
  wrZ (q211 x) /\ wrZ (q211 x) <= (lnZ x.1)) /\ ∃ (I : q11), ∃ (μ : q12), ((q206 x) = (q206 x) /\ List.drop q79 (q207 x) = List.drop q79 (q207 x) /\ Value.bool false = Value.bool false /\
  Value.bool false = Value.bool false /\ Value.bool false = Value.bool false /\ wrZ (q212 x) = wrZ (q212 x) /\ Value.bool false = Value.bool false /\ Value.bool false = Value.bool false /\
  Value.bool false = Value.bool false /\ q42 = q42 /\ q42 = q42 /\ q42 = q42 /\ x.1 = x.1 /\ I (q42, q42, ()) ()) /\ ∀ (y : q7) (z : Unit), (q99 y) -> True -> I y z -> (decide (q205 y x) =
  true -> (q42 <= y.1 /\ y.1 < (q206 x)) /\ q42 <= q156 /\ (q206 x) = (q206 x) /\ List.drop q79 (q207 x) = List.drop q79 (q207 x) /\ Value.bool false = Value.bool false /\ Value.bool false =
  Value.bool false /\ Value.bool false = Value.bool false /\ wrZ (q212 x) = wrZ (q212 x) /\ Value.bool false = Value.bool false /\ Value.bool false = Value.bool false /\ Value.bool false =
  Value.bool false /\ q42 = q42 /\ q42 = q42 /\ q42 = q42 /\ x.1 = x.1 /\ I (wrZ (q100 y), wrZ (q202 y x), ()) () /\ μ (wrZ (q100 y), wrZ (q202 y x), ()) () < μ y z) /\ (decide (q205 y x) =
  false -> (decide (y.2.1 < q101) = true -> (q42, q42, q42, q76) = headK x.1) /\ (decide (y.2.1 < q101) = false -> (q70 x) /\ (wrZ (q213 x), wrZ (q211 x), y.2.1, q42) = headK x.1)))))))) /\
  True)
theorem e140 : t140 = Con.vc c_der_head GL (mkEnv ty [(154, conSem c_der_isTag)] [] [] [0, 2, 3, 4, 5, 6, 8, 9, 13, 20, 29, 40, 58, 67, 68, 69, 70, 80]) {} Tryz.f140.ntmps Tryz.f140.results.toList (bodyOf Tryz.f140) := by kernel_rfl
theorem k140 : t140 := by
  unfold t140
  delta q6 q153 q89 lnZ q42 q70 q4 q53 wrZ q213 q78 q71 q212 q80 q214 q210 q208 q203 q199 q200 q215 q198 q197 q204 q445 q201 q76 q209 q211 q11 q12 q206 q79 q207 q7 q99 q205 q156 q100 q202 q101 wyZ q424 wbZ q450 q479 q464 q499 q578 q554 q496 q495 q478 q452 q497 q547 q583 q498 q553 wiZ q545 q544
  rintro ⟨b, _⟩ hx hp
  have hp : b.length ≤ 1000000000 := hp
  have hb : Bys b := sl_bys hx.1
  try dsimp +instances only [dft_int, dft_sl, dft_str]
  simp only [true_and, and_true, eq_self_iff_true, implies_true, reduceCtorEq, false_implies, true_implies, decide_eq_true_eq, decide_eq_false_iff_not, beq_self_eq_true, Bool.not_eq_true', ne_eq, Decidable.not_not, List.nil_append, List.length_singleton, List.length_cons, List.length_nil, Nat.zero_add, Nat.add_zero, Nat.mul_one, and_self, beq_iff_eq, Bool.not_true, Bool.not_false, Bool.not_eq_false', Bool.cond_false_right, Bool.and_eq_true, imp_self, Bool.not_eq_true, Bool.cond_true_left, Bool.or_eq_true]
  have b0 := bys_get hb 0
  have b1 := bys_get hb 1
  rw [wrapK (b.getD 0 0) (by omega) (by omega), wrapK (b.getD 1 0) (by omega) (by omega), wrapK (b.getD 1 0 - 128) (by omega) (by omega), wrapK (2 + (b.getD 1 0 - 128)) (by omega) (by omega)]
  have hnil : b = [] ↔ (b.length : Int) = 0 := ⟨fun h => by rw [h]; rfl, fun h => List.eq_nil_of_length_eq_zero (by omega)⟩
  unfold headK
  refine ⟨fun h => by rw [if_pos (hnil.2 h)], fun h => ⟨⟨by decide, by omega⟩, ?_⟩⟩
  rw [if_neg (fun e => h (hnil.1 e))]
  rintro ⟨q, _⟩ _ eq
  simp only at eq ⊢
  subst eq
  refine ⟨fun h1 => by rw [if_pos h1], fun h1 => ?_⟩
  rw [if_neg (by rw [h1]; decide)]
  refine ⟨fun h2 => by rw [if_pos (by omega)], fun h2 => ⟨⟨by decide, by omega⟩, fun h3 => ⟨⟨by decide, by omega⟩, ⟨by decide, by omega⟩, ?_⟩, fun h3 => ?_⟩⟩
  . rw [if_neg (by omega), if_pos (by omega)]
  rw [if_neg (by omega), if_neg (by omega)]
  refine ⟨fun g1 g2 => ⟨⟨g1, g2⟩, by decide, by omega⟩, fun g1 g2 => ⟨g1, g2⟩, fun g1 g2 => ⟨g1, g2⟩, fun g1 => ⟨g1, fun g2 => ⟨g1, g2⟩⟩, fun h4 => by rw [if_pos (by omega)], fun h4 => ?_⟩
  have h4' : ¬ (b.getD 1 0 = 128 ∨ 131 < b.getD 1 0 ∨ (2 < b.length ∧ b.getD 2 0 = 0)) := by
    simp only [Bool.or_eq_false_iff, Bool.and_eq_false_iff, decide_eq_false_iff_not] at h4
    omega
  rw [if_neg h4']
  refine ⟨fun h5 => by rw [if_pos h5], fun h5 => ⟨⟨by decide, by omega, by omega⟩, ?_⟩⟩
  rw [if_neg h5]
  have hsl : (b.take (2 + (b.getD 1 0 - 128)).toNat).drop 2 = (b.drop 2).take (b.getD 1 0 - 128).toNat := by
    rw [List.drop_take]
    congr 1
    omega
  rw [hsl]
  have hbl : Bys ((b.drop 2).take (b.getD 1 0 - 128).toNat) := bys_take (bys_drop hb 2) _
  have hll : ((b.drop 2).take (b.getD 1 0 - 128).toNat).length ≤ 3 := by rw [List.length_take]; omega
  generalize (b.drop 2).take (b.getD 1 0 - 128).toNat = l at hbl hll
  refine ⟨fun y _ => 0 ≤ y.1 ∧ y.1 ≤ l.length ∧ y.2.1 = numB (l.take y.1.toNat), fun y _ => ((l.length : Int) - y.1).toNat, ⟨Int.le_refl 0, by simp only; omega, rfl⟩, ?_⟩
  rintro ⟨i, n, _⟩ _ _ ⟨i0, i1, en⟩
  simp only at i0 i1 en ⊢
  refine ⟨fun hlt => ⟨⟨i0, hlt⟩, by decide, ?_⟩, fun hge => ?_⟩
  . have hnb := num_bound hbl (j := i.toNat) (by omega)
    rw [← en] at hnb
    rw [wrapK (i + 1) (by omega) (by omega), or8 (bys_get hbl _) hnb]
    refine ⟨⟨by omega, by omega, ?_⟩, by omega⟩
    rw [show (i + 1).toNat = i.toNat + 1 by omega, take_snoc l _ (by omega), num_snoc, en]
  . rw [List.take_of_length_le (by omega)] at en
    rw [en]
    exact ⟨fun h6 => by rw [if_pos h6], fun h6 => ⟨⟨by decide, by omega⟩, by rw [if_neg h6]⟩⟩
theorem h140 : c_der_head.ok Tryz.prog GL 140 := con_ok (H := {}) (mkEnv_ok (gl := GL) (l := [(154, conSem c_der_isTag)]) (q := []) (d := []) _ tyOk (by kernel_rfl) ⟨h154.call, trivial⟩ trivial trivial) (by kernel_rfl) (by kernel_rfl) (Eq.mp e140 k140)
def t129 : Prop :=
  ∀ (x : q6), (q153 x) -> lenB x.1 <= q89 -> q79 <= q75 /\ lenB x.1 <= q89 /\ (∀ (y : q25), (q217 y) -> (y.1, y.2.1, y.2.2.1, y.2.2.2.1) = headK x.1 -> (decide (q446 y) = true -> True) /\
  (decide (q446 y) = true -> (decide (q446 y) == true) = true /\ True) /\ (decide (q446 y) = true -> True) /\ (q216 y) /\ (decide (q446 y) = true -> True) /\ (q216 y) /\ (decide (q446 y) =
  true -> (decide (q446 y) == true) = true) /\ ((bif decide (q446 y) then decide (wrZ ((lnZ x.1) - y.2.1) < y.2.2.1) else false) = true -> (decide ((10 : Int) ≠ q42) = true -> ((q42, []),
  q42, (10 : Int)) = takeD x.1) /\ (decide ((10 : Int) ≠ q42) = false -> (q42 <= y.2.1 /\ y.2.1 <= wrZ (y.2.1 + y.2.2.1) /\ wrZ (y.2.1 + y.2.2.1) <= (lnZ x.1)) /\ lenB (List.drop (Int.toNat
  y.2.1) (List.take (Int.toNat (wrZ (y.2.1 + y.2.2.1))) x.1)) <= q89 /\ (∀ (y_1 : q6), (q153 y_1) -> y_1.1 = List.drop (Int.toNat y.2.1) (List.take (Int.toNat (wrZ (y.2.1 + y.2.2.1))) x.1) ->
  ((y.1, y_1.1), wrZ (y.2.1 + y.2.2.1), q42) = takeD x.1) /\ True)) /\ ((bif decide (q446 y) then decide (wrZ ((lnZ x.1) - y.2.1) < y.2.2.1) else false) = false -> (decide (y.2.2.2.1 ≠ q42) =
  true -> ((q42, []), q42, y.2.2.2.1) = takeD x.1) /\ (decide (y.2.2.2.1 ≠ q42) = false -> (q42 <= y.2.1 /\ y.2.1 <= wrZ (y.2.1 + y.2.2.1) /\ wrZ (y.2.1 + y.2.2.1) <= (lnZ x.1)) /\ lenB
  (List.drop (Int.toNat y.2.1) (List.take (Int.toNat (wrZ (y.2.1 + y.2.2.1))) x.1)) <= q89 /\ (∀ (y_1 : q6), (q153 y_1) -> y_1.1 = List.drop (Int.toNat y.2.1) (List.take (Int.toNat (wrZ
  (y.2.1 + y.2.2.1))) x.1) -> ((y.1, y_1.1), wrZ (y.2.1 + y.2.2.1), q42) = takeD x.1) /\ True))) /\ True
theorem e129 : t129 = Con.vc c_der_Take GL (mkEnv ty [(140, conSem c_der_head), (141, conSem c_slices_Clone_byte_byte)] [] [] [0, 2, 3, 4, 5, 6, 7, 8, 25, 27]) {} Tryz.f129.ntmps Tryz.f129.results.toList (bodyOf Tryz.f129) := by kernel_rfl
theorem k129 : t129 := by
  unfold t129
  delta q6 q153 q89 q79 q75 q25 q217 q446 q216 wrZ lnZ q42 wyZ wiZ q547
  rintro ⟨b, _⟩ hx hp
  have hp : b.length ≤ 1000000000 := hp
  have hb : Bys b := sl_bys hx.1
  try dsimp +instances only [dft_int, dft_sl, dft_str]
  simp only [true_and, and_true, eq_self_iff_true, implies_true, reduceCtorEq, false_implies, true_implies, decide_eq_true_eq, decide_eq_false_iff_not, beq_self_eq_true, Bool.not_eq_true', ne_eq, Decidable.not_not, List.nil_append, List.length_singleton, List.length_cons, List.length_nil, Nat.zero_add, Nat.add_zero, Nat.mul_one, and_self, beq_iff_eq, Bool.not_true, Bool.not_false, Bool.not_eq_false', Bool.cond_false_right, Bool.and_eq_true, imp_self, Bool.not_eq_true, Bool.cond_true_left, Bool.or_eq_true]
  refine ⟨by decide, hp, ?_⟩
  rintro ⟨t, f, n, e, _⟩ _ eh
  simp only at eh ⊢
  have k1 : (headK b).1 = t := by rw [← eh]
  have k2 : (headK b).2.1 = f := by rw [← eh]
  have k3 : (headK b).2.2.1 = n := by rw [← eh]
  have k4 : (headK b).2.2.2 = e := by rw [← eh]
  have hT : takeD b = if e ≠ 0 then ((0, []), 0, e) else if (b.length : Int) - f < n then ((0, []), 0, 10) else ((t, (b.drop f.toNat).take n.toNat), f + n, 0) := by rw [takeD, k1, k2, k3, k4]
  have hok : e = 0 → 2 ≤ f ∧ f ≤ 5 ∧ f ≤ b.length ∧ 0 ≤ n ∧ n ≤ 16777215 := fun h => by
    have := head_ok hb (by rw [k4]; exact h)
    rw [k2, k3] at this
    exact ⟨this.1, this.2.1, this.2.2.1, this.2.2.2.1, this.2.2.2.2.1⟩
  refine ⟨fun h => ⟨fun _ => ?_, fun h10 => by cases h10⟩, fun h => ⟨fun he => by rw [hT, if_pos he], fun he => ?_⟩⟩
  . obtain ⟨h1, h2⟩ := h
    have := hok h1
    rw [wrapK _ (by omega) (by omega)] at h2
    rw [hT, if_neg (by omega), if_pos h2]
  . have hk := hok he
    simp only [Bool.and_eq_false_iff, decide_eq_false_iff_not] at h
    have h := h.resolve_left (fun h => h he)
    rw [wrapK _ (by omega) (by omega)] at h
    rw [wrapK (f + n) (by omega) (by omega)]
    refine ⟨⟨by omega, by omega, by omega⟩, by rw [lenB, List.length_drop, List.length_take]; omega, ?_⟩
    rintro ⟨c, _⟩ _ ec
    simp only at ec ⊢
    rw [hT, if_neg (by omega), if_neg h, ec, List.drop_take, show (f + n).toNat - f.toNat = n.toNat by omega]
theorem h129 : c_der_Take.ok Tryz.prog GL 129 := con_ok (H := {}) (mkEnv_ok (gl := GL) (l := [(140, conSem c_der_head), (141, conSem c_slices_Clone_byte_byte)]) (q := []) (d := []) _ tyOk (by kernel_rfl) ⟨h140.call, h141.call, trivial⟩ trivial trivial) (by kernel_rfl) (by kernel_rfl) (Eq.mp e129 k129)
def t112 : Prop :=
  ∀ (x : q6), (q153 x) -> lenB x.1 <= q89 -> q79 <= q75 /\ lenB x.1 <= q89 /\ (∀ (y : q26), (q219 y) -> (y.1, y.2.1, y.2.2.1) = takeD x.1 -> q79 <= q75 /\ (decide (q220 y) = true -> True) /\
  (decide (q220 y) = true -> True) /\ (decide (q220 y) = true -> (q447 y) = true /\ True) /\ (q218 y) /\ (decide (q220 y) = true -> (q447 y) = true) /\ ((bif decide (q220 y) then decide
  (y.2.1 < (lnZ x.1)) else false) = true -> ((q42, []), (13 : Int)) = oneD x.1) /\ ((bif decide (q220 y) then decide (y.2.1 < (lnZ x.1)) else false) = false -> ((y.1.1, y.1.2), y.2.2.1) =
  oneD x.1)) /\ True
theorem e112 : t112 = Con.vc c_der_One GL (mkEnv ty [(129, conSem c_der_Take)] [] [] [0, 2, 3, 4, 5, 6, 20]) {} Tryz.f112.ntmps Tryz.f112.results.toList (bodyOf Tryz.f112) := by kernel_rfl
theorem k112 : t112 := by
  unfold t112
  delta q6 q153 q89 q79 q75 q26 q219 q220 q447 q218 lnZ q42 wyZ q451 wiZ q424 q547 q558
  rintro ⟨b, _⟩ hx hp
  have hp : b.length ≤ 1000000000 := hp
  try dsimp +instances only [dft_int, dft_sl, dft_str]
  simp only [true_and, and_true, eq_self_iff_true, implies_true, reduceCtorEq, false_implies, true_implies, decide_eq_true_eq, decide_eq_false_iff_not, beq_self_eq_true, Bool.not_eq_true', ne_eq, Decidable.not_not, List.nil_append, List.length_singleton, List.length_cons, List.length_nil, Nat.zero_add, Nat.add_zero, Nat.mul_one, and_self, beq_iff_eq, Bool.not_true, Bool.not_false, Bool.not_eq_false', Bool.cond_false_right, Bool.and_eq_true, imp_self, Bool.not_eq_true, Bool.cond_true_left, Bool.or_eq_true]
  refine ⟨by decide, hp, ?_⟩
  rintro ⟨⟨t, c⟩, n, e, _⟩ _ eT
  simp only at eT ⊢
  refine ⟨by decide, fun h => ?_, fun h => ?_⟩
  . rw [oneD, ← eT, if_pos h]
  . rw [oneD, ← eT, if_neg (fun hh => by simp only [Bool.and_eq_false_iff, decide_eq_false_iff_not] at h; exact h.elim (fun h => h hh.1) (fun h => h hh.2))]
theorem h112 : c_der_One.ok Tryz.prog GL 112 := con_ok (H := {}) (mkEnv_ok (gl := GL) (l := [(129, conSem c_der_Take)]) (q := []) (d := []) _ tyOk (by kernel_rfl) ⟨h129.call, trivial⟩ trivial trivial) (by kernel_rfl) (by kernel_rfl) (Eq.mp e112 k112)
def t131 : Prop :=
  ∀ (x : q1), (q38 x) -> True -> (decide (x.1 < q424) = false -> True) /\ (decide (x.1 < q424) = false -> (q180 x) = true /\ True) /\ (decide (x.1 < q424) = false -> (q180 x) = true) /\ ((bif
  decide (x.1 < q424) then true else decide ((16777215 : Int) < x.1)) = true -> q42 = sizeD x.1) /\ ((bif decide (x.1 < q424) then true else decide ((16777215 : Int) < x.1)) = false -> (q42
  <= x.1 /\ x.1 <= (16777215 : Int)) /\ (∀ (y : q6), (q153 y) -> y.1 = lngD x.1 -> wrZ (q78 + (lnZ y.1)) = sizeD x.1) /\ True)
theorem e131 : t131 = Con.vc c_der_Size GL (mkEnv ty [(143, conSem c_der_length)] [] [] [0, 2, 8]) {} Tryz.f131.ntmps Tryz.f131.results.toList (bodyOf Tryz.f131) := by kernel_rfl
theorem k131 : t131 := by
  unfold t131
  delta q1 q38 q424 q180 q42 q6 q153 wrZ q78 lnZ wiZ wyZ
  rintro ⟨n, _⟩ hx hp
  try dsimp +instances only [dft_int, dft_sl, dft_str]
  simp only [true_and, and_true, eq_self_iff_true, implies_true, reduceCtorEq, false_implies, true_implies, decide_eq_true_eq, decide_eq_false_iff_not, beq_self_eq_true, Bool.not_eq_true', ne_eq, Decidable.not_not, List.nil_append, List.length_singleton, List.length_cons, List.length_nil, Nat.zero_add, Nat.add_zero, Nat.mul_one, and_self, beq_iff_eq, Bool.not_true, Bool.not_false, Bool.not_eq_false', Bool.cond_false_right, Bool.and_eq_true, imp_self, Bool.not_eq_true, Bool.cond_true_left, Bool.or_eq_true]
  refine ⟨fun h => by rw [sizeD, if_pos h], fun h => ?_⟩
  simp only [Bool.or_eq_false_iff, decide_eq_false_iff_not] at h
  refine ⟨⟨by omega, by omega⟩, ?_⟩
  rintro ⟨l, _⟩ _ el
  simp only at el ⊢
  have := lng_len (n := n)
  rw [el, wrapK _ (by omega) (by omega), size_of (by omega) (by omega)]
theorem h131 : c_der_Size.ok Tryz.prog GL 131 := con_ok (H := {}) (mkEnv_ok (gl := GL) (l := [(143, conSem c_der_length)]) (q := []) (d := []) _ tyOk (by kernel_rfl) ⟨h143.call, trivial⟩ trivial trivial) (by kernel_rfl) (by kernel_rfl) (Eq.mp e131 k131)
noncomputable def i142 : CallSem → CallSem := vcSeq (mkEnv ty [(129, conSem c_der_Take)] [] [] [0, 1, 3, 4, 5, 6, 10, 27]) {} Tryz.f142.ntmps Tryz.f142.results.toList (bodyOf Tryz.f142)
theorem i142_ok : SeqOk Tryz.prog GL 142 i142 := seq_ok {} (mkEnv_ok (gl := GL) (l := [(129, conSem c_der_Take)]) (q := []) (d := []) _ tyOk (by kernel_rfl) ⟨h129.call, trivial⟩ trivial trivial) (by kernel_rfl) (by kernel_rfl)
noncomputable def i130 : CallSem := vcFn (mkEnv ty [(141, conSem c_slices_Clone_byte_byte)] [] [] [0, 2, 3]) {} Tryz.f130.ntmps Tryz.f130.results.toList (bodyOf Tryz.f130)
theorem i130_ok : CallOk Tryz.prog GL 130 i130 := inl_ok {} (mkEnv_ok (gl := GL) (l := [(141, conSem c_slices_Clone_byte_byte)]) (q := []) (d := []) _ tyOk (by kernel_rfl) ⟨h141.call, trivial⟩ trivial trivial) (by kernel_rfl) (by kernel_rfl)
def t113 : Prop :=
  ∀ (x : q6), (q153 x) -> lenB x.1 <= q89 -> q45 <= q75 /\ q45 <= q75 /\ lenB x.1 <= q89 /\ (∀ (y : q6), (q153 y) -> y.1 = x.1 -> q45 <= q75 /\ ∃ (I : Int × Unit -> Unit × (Int × Unit) × q149
  × List q224 × Unit -> Prop), ∃ (μ : Int × Unit -> Unit × (Int × Unit) × q149 × List q224 × Unit -> Nat), (q42 = q42 /\ q42 = q42 /\ Value.slice none q77 q77 = Value.slice none q77 q77 /\
  x.1 = x.1 /\ I (q42, ()) ((), (q42, ()), (y.1, ()), [], ())) /\ ∀ (y : q1) (z : Unit × (Int × Unit) × q149 × List q224 × Unit), (q38 y) -> True /\ (wiZ z.2.1.1 /\ True) /\ (wyZ z.2.2.1.1 /\
  True) /\ (Kd.wf q223 z.2.2.2.1 /\ True) -> I y z -> (decide (y.1 < (lnZ z.2.2.1.1)) = true -> (q42 <= y.1 /\ y.1 <= (lnZ z.2.2.1.1)) /\ lenB (List.drop (q44 y) z.2.2.1.1) <= q89 /\ (∀ (y_1
  : q26), (q219 y_1) -> (y_1.1, y_1.2.1, y_1.2.2.1) = takeD (List.drop (q44 y) z.2.2.1.1) -> q79 <= q75 /\ (decide (y_1.2.2.1 ≠ q42) = false -> True) /\ (decide (y_1.2.2.1 ≠ q42) = false ->
  True) /\ (decide (y_1.2.2.1 ≠ q42) = false -> True) /\ (decide (y_1.2.2.1 ≠ q42) = false -> (decide (y_1.2.2.1 ≠ q42) == false) = true /\ (decide (y_1.2.2.1 ≠ q42) == false) = true /\
  (decide (y_1.2.2.1 ≠ q42) == false) = true /\ q79 <= q75 /\ q77 < q79 /\ (List.length z.2.2.2.1 + List.length [(y_1.1.1, y_1.1.2)]) * (32 : Nat) <= q140 /\ List.length z.2.2.2.1 +
  List.length [(y_1.1.1, y_1.1.2)] <= q139 /\ (((True /\ (∀ (y_2 : q1), (q38 y_2) -> y_2.1 = sizeD (lnZ y_1.1.2) -> (((((q42 = q42 /\ q42 = q42 /\ Value.slice none q77 q77 = Value.slice none
  q77 q77 /\ x.1 = x.1 /\ I (wrZ (y.1 + y_1.2.1), ()) ((), (wrZ (q449 y y_2 y_1), ()), (z.2.2.1.1, ()), z.2.2.2.1 ++ [(y_1.1.1, y_1.1.2)], ()) /\ μ (wrZ (y.1 + y_1.2.1), ()) ((), (wrZ (q449 y
  y_2 y_1), ()), (z.2.2.1.1, ()), z.2.2.2.1 ++ [(y_1.1.1, y_1.1.2)], ()) < μ y z) /\ True) /\ True) /\ True) /\ True) /\ (((((q42 = q42 /\ q42 = q42 /\ Value.slice none q77 q77 = Value.slice
  none q77 q77 /\ x.1 = x.1 /\ I (wrZ (y.1 + y_1.2.1), ()) ((), (wrZ (q449 y y_2 y_1), ()), (z.2.2.1.1, ()), z.2.2.2.1 ++ [(y_1.1.1, y_1.1.2)], ()) /\ μ (wrZ (y.1 + y_1.2.1), ()) ((), (wrZ
  (q449 y y_2 y_1), ()), (z.2.2.1.1, ()), z.2.2.2.1 ++ [(y_1.1.1, y_1.1.2)], ()) < μ y z) /\ True) /\ True) /\ True) /\ ((((q42 = q42 /\ q42 = q42 /\ Value.slice none q77 q77 = Value.slice
  none q77 q77 /\ x.1 = x.1 /\ I (wrZ (y.1 + y_1.2.1), ()) ((), (wrZ (q449 y y_2 y_1), ()), (z.2.2.1.1, ()), z.2.2.2.1 ++ [(y_1.1.1, y_1.1.2)], ()) /\ μ (wrZ (y.1 + y_1.2.1), ()) ((), (wrZ
  (q449 y y_2 y_1), ()), (z.2.2.1.1, ()), z.2.2.2.1 ++ [(y_1.1.1, y_1.1.2)], ()) < μ y z) /\ True) /\ True) /\ True) /\ True) /\ True) /\ True) /\ ((True /\ (∀ (y_2 : q1), (wiZ y_2.1 /\ True)
  -> y_2.1 = sizeD (lnZ y_1.1.2) -> ((((q424 = q424 /\ q424 = q424 /\ Value.slice none q450 q450 = Value.slice none q450 q450 /\ x.1 = x.1 /\ I (wrZ (y.1 + y_1.2.1), ()) ((), (wrZ (q449 y y_2
  y_1), ()), (z.2.2.1.1, ()), z.2.2.2.1 ++ [(y_1.1.1, y_1.1.2)], ()) /\ μ (wrZ (y.1 + y_1.2.1), ()) ((), (wrZ (q449 y y_2 y_1), ()), (z.2.2.1.1, ()), z.2.2.2.1 ++ [(y_1.1.1, y_1.1.2)], ()) <
  μ y z) /\ True) /\ True) /\ True) /\ ((((q424 = q424 /\ q424 = q424 /\ Value.slice none q450 q450 = Value.slice none q450 q450 /\ x.1 = x.1 /\ I (wrZ (y.1 + y_1.2.1), ()) ((), (wrZ (q449 y
  y_2 y_1), ()), (z.2.2.1.1, ()), z.2.2.2.1 ++ [(y_1.1.1, y_1.1.2)], ()) /\ μ (wrZ (y.1 + y_1.2.1), ()) ((), (wrZ (q449 y y_2 y_1), ()), (z.2.2.1.1, ()), z.2.2.2.1 ++ [(y_1.1.1, y_1.1.2)],
  ()) < μ y z) /\ True) /\ True) /\ True) /\ True) /\ True) /\ (q448 y_1 x I y z μ) /\ True) /\ True) /\ (q221 y_1 x I y z μ) /\ True) /\ ((q221 y_1 x I y z μ) /\ (((q448 y_1 x I y z μ) /\
  True) /\ True) /\ True) /\ True) /\ (decide (y_1.2.2.1 ≠ q42) = !false -> (decide (z.2.1.1 = (lnZ x.1)) = true -> (z.2.2.2.1, z.2.1.1, q42) = allD x.1) /\ (q222 z x))) /\ True) /\ (decide
  (y.1 < (lnZ z.2.2.1.1)) = false -> (decide (z.2.1.1 = (lnZ x.1)) = true -> (z.2.2.2.1, z.2.1.1, q42) = allD x.1) /\ (q222 z x))) /\ True
theorem e113 : t113 = Con.vc c_der_All GL (mkEnv ty [(130, i130), (129, conSem c_der_Take), (131, conSem c_der_Size)] [(142, i142)] [] [0, 2, 3, 4, 5, 6, 7, 8, 11, 13, 14, 15, 33]) {} Tryz.f113.ntmps Tryz.f113.results.toList (bodyOf Tryz.f113) := by kernel_rfl
theorem k113 : t113 := by
  unfold t113
  delta q6 q153 q89 q45 q75 q149 q224 q42 q77 q1 q38 wiZ wyZ q223 lnZ q44 q26 q219 q79 q140 q139 wrZ q449 q424 q450 q448 q221 q222 q451 q547 q557 q500 q501 q558
  rintro ⟨b, _⟩ hx hp
  have hp : b.length ≤ 1000000000 := hp
  have hb : Bys b := sl_bys hx.1
  try dsimp +instances only [dft_int, dft_sl, dft_str]
  simp only [true_and, and_true, eq_self_iff_true, implies_true, reduceCtorEq, false_implies, true_implies, decide_eq_true_eq, decide_eq_false_iff_not, beq_self_eq_true, Bool.not_eq_true', ne_eq, Decidable.not_not, List.nil_append, List.length_singleton, List.length_cons, List.length_nil, Nat.zero_add, Nat.add_zero, Nat.mul_one, and_self, beq_iff_eq, Bool.not_true, Bool.not_false, Bool.not_eq_false', Bool.cond_false_right, Bool.and_eq_true, imp_self, Bool.not_eq_true, Bool.cond_true_left, Bool.or_eq_true]
  refine ⟨by decide, by decide, hp, ?_⟩
  rintro ⟨b1, _⟩ _ eb
  have eb : b1 = b := eb
  subst eb
  refine ⟨by decide, fun y z => z.2.2.1.1 = b1 ∧ 0 ≤ y.1 ∧ y.1 ≤ b1.length ∧ z.2.1.1 = y.1 ∧ (z.2.2.2.1 : List EltT).length ≤ y.1 ∧ ∃ (k : Nat) (pre : List (Int × EltT)), (b1.length : Int) - y.1 ≤ k ∧ rowD b1 = (pre ++ (rowR b1 k y.1).1, (rowR b1 k y.1).2) ∧ z.2.2.2.1 = pre.map (·.2), fun y _ => ((b1.length : Int) - y.1).toNat, ⟨rfl, Int.le_refl 0, by simp only; omega, rfl, by simp, b1.length, [], by simp only; omega, rfl, rfl⟩, ?_⟩
  rintro ⟨i, _⟩ ⟨_, ⟨en, _⟩, ⟨own, _⟩, out, _⟩ _ _ ⟨eo, i0, i1, ee, hl, k, pre, hk, hr, eout⟩
  simp only at eo i0 i1 ee hl hk hr eout ⊢
  subst eo ee
  refine ⟨fun hlt => ⟨⟨i0, by omega⟩, by rw [lenB, List.length_drop]; omega, ?_⟩, fun hge => ⟨fun h => ?_, fun h => absurd (by omega) h⟩⟩
  . rintro ⟨x, n, e, _⟩ _ eT
    simp only at eT ⊢
    obtain ⟨m, rfl⟩ : ∃ m, k = m + 1 := ⟨k - 1, by omega⟩
    have hbd : Bys (own.drop en.toNat) := bys_drop hb _
    refine ⟨by decide, fun he => ?_, fun he => ⟨fun h => by omega, fun h => ⟨⟨i0, i1⟩, by rw [lenB, List.length_drop]; omega, ?_⟩⟩⟩
    . subst he
      have ok : (takeD (own.drop en.toNat)).2.2 = 0 := by rw [← eT]
      have h1 := take_inv hbd ok
      have h2 := take_ok hbd ok
      rw [row_step own m en hlt ok] at hr
      rw [← eT] at h1 h2 hr
      simp only at h1 h2 hr
      rw [List.length_drop] at h2
      have hpl := put_len x
      have hll := lng_len (n := (x.2.length : Int))
      refine ⟨by trivial, by trivial, by trivial, by decide, by decide, by omega, by omega, ?_⟩
      rintro ⟨z, _⟩ _ ez
      simp only at ez ⊢
      rw [size_of (by omega) (by omega)] at ez
      rw [wrapK (en + n) (by omega) (by omega), wrapK (en + z) (by omega) (by omega), wrapK (en + z + (x.2.length : Int)) (by omega) (by omega)]
      refine ⟨⟨by trivial, by omega, by omega, by omega, by rw [List.length_append, List.length_singleton]; omega, m, pre ++ [(en, x)], by omega, ?_, ?_⟩, by omega⟩
      . rw [hr]; simp
      . rw [eout]; simp
    . rintro ⟨x2, n2, e2, _⟩ _ eT2
      simp only at eT2 ⊢
      have he2 : e2 = e := by
        have := eT.trans eT2.symm
        simp only [Prod.mk.injEq] at this
        exact this.2.2.symm
      have bad : (takeD (own.drop en.toNat)).2.2 ≠ 0 := by rw [← eT]; exact he
      rw [row_bad own m en hlt bad, ← eT] at hr
      refine ⟨by decide, ?_⟩
      rw [allD, hr, he2]
      simp only
      rw [if_pos he]
  . rw [row_end own k en hge] at hr
    rw [allD, hr]
    simp only
    rw [if_neg (by simp), List.append_nil, eout]
theorem h113 : c_der_All.ok Tryz.prog GL 113 := con_ok (H := {}) (mkEnv_ok (gl := GL) (l := [(130, i130), (129, conSem c_der_Take), (131, conSem c_der_Size)]) (q := [(142, i142)]) (d := []) _ tyOk (by kernel_rfl) ⟨i130_ok, h129.call, h131.call, trivial⟩ ⟨i142_ok, trivial⟩ trivial) (by kernel_rfl) (by kernel_rfl) (Eq.mp e113 k113)
end Go.Proofs.YtgnlcpoeepfdoaaGreatDoor
end
section
namespace Go.Proofs.YtgnlcpoeepfdoaaGreatDoor
open Go Go.Vc Go.Pl Go.Proofs
def c_r01_IsTag : Con := { args := [.dat I64], res := [.dat .bool], pre := fun _ => True, post := fun x y => y.1 = isTagD x.1 }
def c_r01_Length : Con := { args := [.dat I64], res := [.own 5 U8], pre := fun x => 0 ≤ x.1 ∧ x.1 ≤ 16777215, post := fun x y => y.1 = lngD x.1 }
def c_r01_Bytes : Con := { args := [.dat ET], res := [.own 5 U8], pre := fun x => lenB x.1.2 ≤ 16777215 ∧ 0 ≤ x.1.1 ∧ x.1.1 ≤ 255, post := fun x y => y.1 = putB x.1 }
def c_r01_Take : Con := { args := [.dat BY], res := [.dat ET, .dat I64, .dat I64], pre := fun x => lenB x.1 ≤ 1000000000, post := fun x y => (y.1, y.2.1, y.2.2.1) = takeD x.1 }
def c_r01_One : Con := { args := [.dat BY], res := [.dat ET, .dat I64], pre := fun x => lenB x.1 ≤ 1000000000, post := fun x y => (y.1, y.2.1) = oneD x.1 }
def c_r01_Row : Con := { args := [.dat BY], res := [.own 78 ET, .own 3 I64, .dat I64, .dat I64], pre := fun x => lenB x.1 ≤ 1000000000, post := fun x y => y.1 = (rowD x.1).1.map (·.2) ∧ y.2.1 = (rowD x.1).1.map (·.1) ∧ (y.2.2.1, y.2.2.2.1) = (rowD x.1).2 }
def c_r01_All : Con := { args := [.dat BY], res := [.own 78 ET, .dat I64, .dat I64], pre := fun x => lenB x.1 ≤ 1000000000, post := fun x y => (y.1, y.2.1, y.2.2.1) = allD x.1 }
end Go.Proofs.YtgnlcpoeepfdoaaGreatDoor
end
section
namespace Go.Proofs.YtgnlcpoeepfdoaaGreatDoor
open Go Go.Vc Go.Pl Go.Proofs
set_option linter.unusedVariables false
set_option linter.unusedSimpArgs false
set_option maxRecDepth 20000
abbrev q27 := (Int × Int × List Int)
abbrev q225 (p0 : q1) := ((bif decide (q424 <= p0.1) then decide (p0.1 < (256 : Int)) else false) == true)
abbrev q226 (p0 : q1) := (bif decide (q424 <= p0.1) then decide (p0.1 < (256 : Int)) else false)
abbrev q556 (p0 : q25) (p1 : q6) := (List.drop (Int.toNat p0.1) (List.take (Int.toNat (wrZ (p0.1 + p0.2.1))) p1.1))
abbrev q555 (p0 : q6) (p1 : q25) := (((wrZ (List.getD p0.1 (0 : Nat) q583), [] ++ List.drop (Int.toNat p1.1) (List.take (Int.toNat (wrZ (p1.1 + p1.2.1))) p0.1)), wrZ (p1.1 + p1.2.1), (0 :
  Int)) = takeD p0.1 /\ True)
abbrev q502 (p0 : q25) (p1 : q6) := (q557 < q578 /\ (q557 + List.length (q556 p0 p1)) * q578 <= (140737488355328 : Nat) /\ q557 + List.length (q556 p0 p1) <= (9223372036854775807 : Nat) /\
  (q555 p1 p0) /\ True)
abbrev q227 (p0 : q25) (p1 : q6) := (((q424 <= p0.1 /\ p0.1 <= wrZ (p0.1 + p0.2.1) /\ wrZ (p0.1 + p0.2.1) <= (lnZ p1.1)) /\ (q502 p0 p1) /\ True) /\ True)
abbrev q228 (p0 : q25) (p1 : q6) := ((q502 p0 p1) /\ True)
abbrev q229 (p0 : q25) (p1 : q6) := (q450 < q578 /\ (q557 + List.length (q556 p0 p1)) * q578 <= (140737488355328 : Nat) /\ q450 + List.length (q556 p0 p1) <= (9223372036854775807 : Nat) /\
  ((q555 p1 p0) /\ True) /\ True)
abbrev q230 (p0 : q6) := (bif decide (wrZ (q499 p0) = (128 : Int)) then true else decide ((131 : Int) < wrZ (q499 p0)))
abbrev q231 (p0 : q6) := (bif decide (q452 p0) then decide (List.getD p0.1 (2 : Nat) q479 = q424) else false)
abbrev q232 (p0 : q6) := (decide (q452 p0) = true -> (decide (q452 p0) == true) = true /\ True)
abbrev q233 (p0 : q25) (p1 : q6) := (q424 <= p0.1 /\ p0.1 <= wrZ (p0.1 + p0.2.1) /\ wrZ (p0.1 + p0.2.1) <= (lnZ p1.1))
abbrev q234 (p0 : q6) := (wrZ (q499 p0) = (128 : Int))
abbrev q235 := (Kd.dft q544)
abbrev q236 := (Kd.sl q558)
def t105 : Prop :=
  ∀ (x : q1), (q38 x) -> True -> (decide (q41 x) = true -> True) /\ (decide (q41 x) = true -> (decide (q41 x) == true) = true /\ True) /\ (decide (q41 x) = true -> (decide (q41 x) == true) =
  true) /\ ((q226 x) = true -> True) /\ ((q226 x) = true -> (q225 x) = true /\ (32 : Int) ≠ q42 /\ True) /\ ((q226 x) = true -> (q225 x) = true /\ True) /\ ((q226 x) = true -> (q225 x) =
  true) /\ (bif bif decide (q41 x) then decide (x.1 < (256 : Int)) else false then decide (Int.tmod x.1 (32 : Int) ≠ (31 : Int)) else false) = isTagD x.1
theorem e105 : t105 = Con.vc c_r01_IsTag GL (mkEnv ty [] [] [] [0, 2]) {} Tryz.f105.ntmps Tryz.f105.results.toList (bodyOf Tryz.f105) := by kernel_rfl
theorem k105 : t105 := by
  unfold t105
  delta q1 q38 q41 q226 q225 q42 wiZ q424
  rintro ⟨t, _⟩ hx hp
  try dsimp +instances only [dft_int, dft_sl, dft_str]
  simp only [true_and, and_true, eq_self_iff_true, implies_true, reduceCtorEq, false_implies, true_implies, decide_eq_true_eq, decide_eq_false_iff_not, beq_self_eq_true, Bool.not_eq_true', ne_eq, Decidable.not_not, List.nil_append, List.length_singleton, List.length_cons, List.length_nil, Nat.zero_add, Nat.add_zero, Nat.mul_one, and_self, beq_iff_eq, Bool.not_true, Bool.not_false, Bool.not_eq_false', Bool.cond_false_right, Bool.and_eq_true, imp_self, Bool.not_eq_true, Bool.cond_true_left, Bool.or_eq_true]
  exact ⟨fun h => ⟨h, by decide⟩, isTag_ref t⟩
theorem h105 : c_r01_IsTag.ok Tryz.prog GL 105 := con_ok (H := {}) (mkEnv_ok (gl := GL) (l := []) (q := []) (d := []) _ tyOk (by kernel_rfl) trivial trivial trivial) (by kernel_rfl) (by kernel_rfl) (Eq.mp e105 k105)
def t128 : Prop :=
  ∀ (x : q1), (q38 x) -> q42 <= x.1 /\ x.1 <= (16777215 : Int) -> (decide (x.1 < q101) = true -> [IntKind.wrap IntKind.u8 x.1] = lngD x.1) /\ (decide (x.1 < q101) = false -> ∃ (I : q19), ∃ (μ
  : q20), (Value.bool false = Value.bool false /\ Value.slice none q77 q77 = Value.slice none q77 q77 /\ I (x.1, ()) ([], ())) /\ ∀ (y : q1) (z : q6), (q38 y) -> (q153 z) -> I y z -> (decide
  (q148 y) = true -> (256 : Int) ≠ q42 /\ q77 < q45 /\ (List.length [IntKind.wrap IntKind.u8 (Int.tmod y.1 (256 : Int))] + List.length z.1) * q45 <= q140 /\ List.length [IntKind.wrap
  IntKind.u8 (Int.tmod y.1 (256 : Int))] + List.length z.1 <= q139 /\ (256 : Int) ≠ q42 /\ Value.bool false = Value.bool false /\ Value.slice none q77 q77 = Value.slice none q77 q77 /\ I (wrZ
  (Int.tdiv y.1 (256 : Int)), ()) ([IntKind.wrap IntKind.u8 (Int.tmod y.1 (256 : Int))] ++ z.1, ()) /\ μ (wrZ (Int.tdiv y.1 (256 : Int)), ()) ([IntKind.wrap IntKind.u8 (Int.tmod y.1 (256 :
  Int))] ++ z.1, ()) < μ y z) /\ (decide (q148 y) = false -> q77 < q45 /\ (List.length [IntKind.wrap IntKind.u8 (wrZ (q101 + (lnZ z.1)))] + List.length z.1) * q45 <= q140 /\ List.length
  [IntKind.wrap IntKind.u8 (wrZ (q101 + (lnZ z.1)))] + List.length z.1 <= q139 /\ [IntKind.wrap IntKind.u8 (wrZ (q101 + (lnZ z.1)))] ++ z.1 = lngD x.1))
theorem e128 : t128 = Con.vc c_r01_Length GL (mkEnv ty [] [] [] [0, 2, 3, 5, 10]) {} Tryz.f128.ntmps Tryz.f128.results.toList (bodyOf Tryz.f128) := by kernel_rfl
theorem k128 : t128 := by
  unfold t128
  delta q1 q38 q42 q101 q19 q20 q77 q6 q153 q148 q45 q140 q139 wrZ lnZ wiZ wyZ q424
  rintro ⟨n, _⟩ hx hp
  obtain ⟨h0, h1⟩ := hp
  simp only at h0 h1
  try dsimp +instances only [dft_int, dft_sl, dft_str]
  simp only [true_and, and_true, eq_self_iff_true, implies_true, reduceCtorEq, false_implies, true_implies, decide_eq_true_eq, decide_eq_false_iff_not, beq_self_eq_true, Bool.not_eq_true', ne_eq, Decidable.not_not, List.nil_append, List.length_singleton, List.length_cons, List.length_nil, Nat.zero_add, Nat.add_zero, Nat.mul_one, and_self, beq_iff_eq, Bool.not_true, Bool.not_false, Bool.not_eq_false', Bool.cond_false_right, Bool.and_eq_true, imp_self, Bool.not_eq_true, Bool.cond_true_left, Bool.or_eq_true]
  refine ⟨fun h => by rw [lngD, if_pos h, wrap_u8m, show n % 256 = n by omega], fun h => ?_⟩
  refine ⟨fun y z => (y.1 = n ∧ z.1 = []) ∨ (y.1 = n / 256 ∧ z.1 = [n % 256]) ∨ (0 < n / 256 ∧ y.1 = n / 65536 ∧ z.1 = [n / 256 % 256, n % 256]) ∨ (0 < n / 65536 ∧ y.1 = 0 ∧ z.1 = [n / 65536, n / 256 % 256, n % 256]), fun y _ => y.1.toNat, .inl ⟨rfl, rfl⟩, ?_⟩
  rintro ⟨m, _⟩ ⟨z, _⟩ _ _ hI
  simp only at hI ⊢
  refine ⟨fun hlt => ?_, fun hge => ?_⟩
  . have hm : IntKind.wrap .i64 (m.tdiv 256) = m / 256 := by
      rw [Int.tdiv_eq_ediv_of_nonneg (by omega), wrapK _ (by omega) (by omega)]
    have hm2 : IntKind.wrap .u8 (m.tmod 256) = m % 256 := by
      rw [Int.tmod_eq_emod_of_nonneg (by omega), wrap_u8m]
      omega
    rw [hm, hm2]
    rcases hI with ⟨rfl, rfl⟩ | ⟨rfl, rfl⟩ | ⟨g, rfl, rfl⟩ | ⟨g, rfl, rfl⟩
    . exact ⟨by decide, by decide, by simp, by simp, by decide, .inr (.inl ⟨rfl, rfl⟩), by omega⟩
    . exact ⟨by decide, by decide, by simp, by simp, by decide, .inr (.inr (.inl ⟨hlt, by omega, rfl⟩)), by omega⟩
    . refine ⟨by decide, by decide, by simp, by simp, by decide, .inr (.inr (.inr ⟨hlt, by omega, ?_⟩)), by omega⟩
      rw [show n / 65536 % 256 = n / 65536 by omega]
      rfl
    . omega
  . rcases hI with ⟨rfl, rfl⟩ | ⟨rfl, rfl⟩ | ⟨g, rfl, rfl⟩ | ⟨g, rfl, rfl⟩
    . omega
    . refine ⟨by decide, by simp, by simp, ?_⟩
      rw [lngD, if_neg h, if_pos (by omega), show n % 256 = n by omega]
      rfl
    . refine ⟨by decide, by simp, by simp, ?_⟩
      rw [lngD, if_neg h, if_neg (by omega), if_pos (by omega), show n / 256 % 256 = n / 256 by omega]
      rfl
    . refine ⟨by decide, by simp, by simp, ?_⟩
      rw [lngD, if_neg h, if_neg (by omega), if_neg (by omega)]
      rfl
theorem h128 : c_r01_Length.ok Tryz.prog GL 128 := con_ok (H := {}) (mkEnv_ok (gl := GL) (l := []) (q := []) (d := []) _ tyOk (by kernel_rfl) trivial trivial trivial) (by kernel_rfl) (by kernel_rfl) (Eq.mp e128 k128)
def t111 : Prop :=
  ∀ (x : q23), (Kd.wf q451 x.1 /\ True) -> lenB x.1.2 <= (16777215 : Nat) /\ q42 <= x.1.1 /\ x.1.1 <= (255 : Int) -> List.length [SV.dat q171 x.1.1, SV.dat (Kd.sl (Kd.int IntKind.u8)) x.1.2]
  <= q75 /\ q77 < q45 /\ (q77 + List.length [IntKind.wrap IntKind.u8 x.1.1]) * q45 <= q140 /\ q77 + List.length [IntKind.wrap IntKind.u8 x.1.1] <= q139 /\ (q42 <= (lnZ x.1.2) /\ (lnZ x.1.2)
  <= (16777215 : Int)) /\ (∀ (y : q6), (q153 y) -> y.1 = lngD (lnZ x.1.2) -> q77 < q45 /\ (List.length ([] ++ [IntKind.wrap IntKind.u8 x.1.1]) + List.length y.1) * q45 <= q140 /\ List.length
  ([] ++ [IntKind.wrap IntKind.u8 x.1.1]) + List.length y.1 <= q139 /\ q77 < q45 /\ (List.length ([] ++ [IntKind.wrap IntKind.u8 x.1.1] ++ y.1) + List.length x.1.2) * q45 <= q140 /\
  List.length ([] ++ [IntKind.wrap IntKind.u8 x.1.1] ++ y.1) + List.length x.1.2 <= q139 /\ [] ++ [IntKind.wrap IntKind.u8 x.1.1] ++ y.1 ++ x.1.2 = putB x.1) /\ True
theorem e111 : t111 = Con.vc c_r01_Bytes GL (mkEnv ty [(128, conSem c_r01_Length)] [] [] [0, 1, 2, 3]) {} Tryz.f111.ntmps Tryz.f111.results.toList (bodyOf Tryz.f111) := by kernel_rfl
theorem k111 : t111 := by
  unfold t111
  delta q23 q451 q42 q171 q75 q77 q45 q140 q139 lnZ q6 q153 q558 wyZ
  rintro ⟨⟨t, c⟩, _⟩ hx hp
  obtain ⟨h1, h2, h3⟩ := hp
  simp only [lenB] at h1 h2 h3
  try dsimp +instances only [dft_int, dft_sl, dft_str]
  simp only [true_and, and_true, eq_self_iff_true, implies_true, reduceCtorEq, false_implies, true_implies, decide_eq_true_eq, decide_eq_false_iff_not, beq_self_eq_true, Bool.not_eq_true', ne_eq, Decidable.not_not, List.nil_append, List.length_singleton, List.length_cons, List.length_nil, Nat.zero_add, Nat.add_zero, Nat.mul_one, and_self, beq_iff_eq, Bool.not_true, Bool.not_false, Bool.not_eq_false', Bool.cond_false_right, Bool.and_eq_true, imp_self, Bool.not_eq_true, Bool.cond_true_left, Bool.or_eq_true]
  have hll := lng_len (n := (c.length : Int))
  refine ⟨by decide, by decide, by decide, by decide, ⟨by omega, by omega⟩, ?_⟩
  rintro ⟨l, _⟩ _ el
  simp only at el ⊢
  subst el
  refine ⟨by decide, by omega, by omega, by decide, by simp only [List.length_append, List.length_singleton]; omega, by simp only [List.length_append, List.length_singleton]; omega, ?_⟩
  rw [wrap8 t h2 h3, putB]
  simp
theorem h111 : c_r01_Bytes.ok Tryz.prog GL 111 := con_ok (H := {}) (mkEnv_ok (gl := GL) (l := [(128, conSem c_r01_Length)]) (q := []) (d := []) _ tyOk (by kernel_rfl) ⟨h128.call, trivial⟩ trivial trivial) (by kernel_rfl) (by kernel_rfl) (Eq.mp e111 k111)
def t90 : Prop :=
  ∀ (x : q6), (q153 x) -> lenB x.1 <= q89 -> q79 <= q75 /\ (decide ((lnZ x.1) = q42) = true -> ((q42, []), q42, (10 : Int)) = takeD x.1) /\ (decide ((lnZ x.1) = q42) = false -> (q70 x) /\
  True /\ (∀ (y : q4), (q53 y) -> y.1 = isTagD (wrZ (q213 x)) -> ((!y.1) = true -> ((q42, []), q42, (11 : Int)) = takeD x.1) /\ ((!y.1) = false -> (decide ((lnZ x.1) = q78) = true -> ((q42,
  []), q42, (10 : Int)) = takeD x.1) /\ (decide ((lnZ x.1) = q78) = false -> (q71 x) /\ (decide (q234 x) = false -> True) /\ (decide (q234 x) = false -> (decide (q234 x) == false) = true /\
  True) /\ (decide (q234 x) = false -> (decide (q234 x) == false) = true) /\ ((q230 x) = true -> ((q42, []), q42, q76) = takeD x.1) /\ ((q230 x) = false -> ∃ (J : Int × Int × Int × Int × Unit
  -> (Int × Unit) × Unit -> Prop), ((decide (q101 < wrZ (q214 x)) = true -> (decide (q215 x) = true -> True) /\ (decide (q215 x) = true -> (decide (q452 x) == true) = true /\ (q42 <= q80 /\
  q80 < (lnZ x.1)) /\ True) /\ (q232 x) /\ (q232 x) /\ (decide (q215 x) = true -> (decide (q452 x) == true) = true) /\ ((q231 x) = true -> ((q42, []), q42, q76) = takeD x.1) /\ ((q231 x) =
  false -> (decide (q209 x) = true -> ((q42, []), q42, (10 : Int)) = takeD x.1) /\ (decide (q209 x) = false -> ∃ (I : Int × Int × Unit -> Unit × Unit -> Prop), ∃ (μ : Int × Int × Unit -> Unit
  × Unit -> Nat), (Value.bool false = Value.bool false /\ Value.bool false = Value.bool false /\ wrZ (q212 x) = wrZ (q212 x) /\ Value.bool true = Value.bool true /\ Value.bool false =
  Value.bool false /\ q80 = q80 /\ Value.bool false = Value.bool false /\ Value.bool false = Value.bool false /\ Value.bool false = Value.bool false /\ q42 = q42 /\ q42 = q42 /\ x.1 = x.1 /\
  q42 = q42 /\ Value.slice none q77 q77 = Value.slice none q77 q77 /\ I (q42, q42, ()) ((), ())) /\ ∀ (y : q7) (z : Unit × Unit), (q99 y) -> True /\ True -> I y z -> (decide (y.1 < wrZ (q212
  x)) = true -> (q42 <= wrZ (q80 + y.1) /\ wrZ (q80 + y.1) < (lnZ x.1)) /\ Value.bool false = Value.bool false /\ Value.bool false = Value.bool false /\ wrZ (q212 x) = wrZ (q212 x) /\
  Value.bool true = Value.bool true /\ Value.bool false = Value.bool false /\ q80 = q80 /\ Value.bool false = Value.bool false /\ Value.bool false = Value.bool false /\ Value.bool false =
  Value.bool false /\ q42 = q42 /\ q42 = q42 /\ x.1 = x.1 /\ q42 = q42 /\ Value.slice none q77 q77 = Value.slice none q77 q77 /\ I (wrZ (q100 y), wrZ (wrZ ((256 : Int) * y.2.1) + wrZ
  (List.getD x.1 (Int.toNat (wrZ (q80 + y.1))) q235)), ()) ((), ()) /\ μ (wrZ (q100 y), wrZ (wrZ ((256 : Int) * y.2.1) + wrZ (List.getD x.1 (Int.toNat (wrZ (q80 + y.1))) q235)), ()) ((), ())
  < μ y z) /\ (decide (y.1 < wrZ (q212 x)) = false -> (decide (y.2.1 < q101) = true -> ((q42, []), q42, q76) = takeD x.1) /\ (decide (y.2.1 < q101) = false -> Value.bool false = Value.bool
  false /\ Value.bool false = Value.bool false /\ Value.bool false = Value.bool false /\ Value.bool false = Value.bool false /\ x.1 = x.1 /\ Value.slice none q77 q77 = Value.slice none q77
  q77 /\ J (wrZ (q211 x), y.2.1, q42, q42, ()) ((q42, ()), ())))))) /\ (decide (q101 < wrZ (q214 x)) = false -> Value.bool false = Value.bool false /\ Value.bool false = Value.bool false /\
  Value.bool false = Value.bool false /\ Value.bool false = Value.bool false /\ x.1 = x.1 /\ Value.slice none q77 q77 = Value.slice none q77 q77 /\ J (q80, wrZ (q214 x), q42, q42, ()) ((q42,
  ()), ()))) /\ ∀ (u : q25) (z : (Int × Unit) × Unit), (q217 u) -> (wiZ z.1.1 /\ True) /\ True -> J u z -> (decide (wrZ ((lnZ x.1) - u.1) < u.2.1) = true -> ((q42, []), q42, (10 : Int)) =
  takeD x.1) /\ (decide (wrZ ((lnZ x.1) - u.1) < u.2.1) = false -> (q70 x) /\ ((q227 u x) /\ ((q233 u x) /\ (q228 u x) /\ True) /\ True) /\ ((q227 u x) /\ ((q233 u x) /\ (q228 u x) /\ (q229 u
  x) /\ True) /\ True) /\ ((q233 u x) /\ ((q228 u x) /\ True) /\ ((q228 u x) /\ (q229 u x) /\ True) /\ True) /\ True))))) /\ True)
theorem e90 : t90 = Con.vc c_r01_Take GL (mkEnvO ty [(105, conSem c_r01_IsTag)] [] [] [0, 2, 3, 4, 5, 6, 7, 8, 11, 18, 22, 33, 36, 47, 53, 57, 70, 79] [1000000]) {joins := [25]} Tryz.f90.ntmps Tryz.f90.results.toList (bodyOf Tryz.f90) := by kernel_rfl
theorem k90 : t90 := by
  unfold t90
  delta q6 q153 q89 q79 q75 lnZ q42 q70 q4 q53 wrZ q213 q78 q71 q234 q230 q76 q101 q214 q215 q452 q80 q232 q231 q209 q212 q77 q7 q99 q100 q235 q211 q25 q217 wiZ q227 q233 q228 q229 wyZ q424 wbZ q450 q479 q464 q499 q578 q478 q583 q544 q554 q502 q557 q556 q555
  rintro ⟨b, _⟩ hx hp
  have hp : b.length ≤ 1000000000 := hp
  have hb : Bys b := sl_bys hx.1
  try dsimp +instances only [dft_int, dft_sl, dft_str]
  simp only [true_and, and_true, eq_self_iff_true, implies_true, reduceCtorEq, false_implies, true_implies, decide_eq_true_eq, decide_eq_false_iff_not, beq_self_eq_true, Bool.not_eq_true', ne_eq, Decidable.not_not, List.nil_append, List.length_singleton, List.length_cons, List.length_nil, Nat.zero_add, Nat.add_zero, Nat.mul_one, and_self, beq_iff_eq, Bool.not_true, Bool.not_false, Bool.not_eq_false', Bool.cond_false_right, Bool.and_eq_true, imp_self, Bool.not_eq_true, Bool.cond_true_left, Bool.or_eq_true]
  have b0 := bys_get hb 0
  have b1 := bys_get hb 1
  rw [wrapK (b.getD 0 0) (by omega) (by omega), wrapK (b.getD 1 0) (by omega) (by omega), wrapK (b.getD 1 0 - 128) (by omega) (by omega), wrapK (2 + (b.getD 1 0 - 128)) (by omega) (by omega)]
  have hnil : b = [] ↔ (b.length : Int) = 0 := ⟨fun h => by rw [h]; rfl, fun h => List.eq_nil_of_length_eq_zero (by omega)⟩
  refine ⟨by decide, fun h => (take_bad (by rw [headK, if_pos (hnil.2 h)]) (by decide)).symm, fun h => ⟨⟨by decide, by omega⟩, ?_⟩⟩
  have c1 : ¬ b = [] := fun e => h (hnil.1 e)
  rintro ⟨q, _⟩ _ eq
  simp only at eq ⊢
  subst eq
  refine ⟨fun h1 => (take_bad (by rw [headK, if_neg c1, if_pos h1]) (by decide)).symm, fun h1 => ?_⟩
  have c2 : ¬ isTagD (b.getD 0 0) = false := by rw [h1]; decide
  refine ⟨fun h2 => (take_bad (by rw [headK, if_neg c1, if_neg c2, if_pos (by omega)]) (by decide)).symm, fun h2 => ⟨⟨by decide, by omega⟩, fun h3 => ?_, fun h3 => ?_⟩⟩
  . refine (take_bad ?_ (by decide)).symm
    rw [headK, if_neg c1, if_neg c2, if_neg (by omega), if_neg (by omega), if_pos (by omega)]
  have c3 : ¬ b.length = 1 := by omega
  have h3' : ¬ b.getD 1 0 = 128 ∧ ¬ 131 < b.getD 1 0 := by
    simp only [Bool.or_eq_false_iff, decide_eq_false_iff_not] at h3
    exact h3
  refine ⟨fun u _ => headK b = (b.getD 0 0, u.1, u.2.1, 0), ⟨fun h4 => ⟨fun g => ⟨g, by decide, g⟩, fun g => ?_, fun g => ⟨fun h5 => ?_, fun h5 => ?_⟩⟩, fun h4 => ?_⟩, ?_⟩
  . refine (take_bad ?_ (by decide)).symm
    rw [headK, if_neg c1, if_neg c2, if_neg c3, if_neg (by omega), if_pos (.inr (.inr ⟨by omega, g.2⟩))]
  . have g2 : ¬ (b.getD 1 0 = 128 ∨ 131 < b.getD 1 0 ∨ (2 < b.length ∧ b.getD 2 0 = 0)) := by
      simp only [Bool.and_eq_false_iff, decide_eq_false_iff_not] at g
      omega
    refine (take_bad ?_ (by decide)).symm
    rw [headK, if_neg c1, if_neg c2, if_neg c3, if_neg (by omega), if_neg g2, if_pos h5]
  . have g2 : ¬ (b.getD 1 0 = 128 ∨ 131 < b.getD 1 0 ∨ (2 < b.length ∧ b.getD 2 0 = 0)) := by
      simp only [Bool.and_eq_false_iff, decide_eq_false_iff_not] at g
      omega
    have hl : ((b.drop 2).take (b.getD 1 0 - 128).toNat).length = (b.getD 1 0 - 128).toNat := by rw [List.length_take, List.length_drop]; omega
    have hbl : Bys ((b.drop 2).take (b.getD 1 0 - 128).toNat) := bys_take (bys_drop hb 2) _
    refine ⟨fun y _ => 0 ≤ y.1 ∧ y.1 ≤ b.getD 1 0 - 128 ∧ y.2.1 = numB (((b.drop 2).take (b.getD 1 0 - 128).toNat).take y.1.toNat), fun y _ => (b.getD 1 0 - 128 - y.1).toNat, ⟨Int.le_refl 0, by simp only; omega, rfl⟩, ?_⟩
    rintro ⟨i, n, _⟩ _ _ ⟨i0, i1, en⟩
    simp only at i0 i1 en ⊢
    refine ⟨fun hlt => ?_, fun hge => ?_⟩
    . have hnb := num_bound hbl (j := i.toNat) (by omega)
      rw [← en] at hnb
      rw [wrapK (2 + i) (by omega) (by omega)]
      have hg : ((b.drop 2).take (b.getD 1 0 - 128).toNat).getD i.toNat 0 = b.getD (2 + i).toNat 0 := by
        rw [getD_take _ _ _ (by omega), getD_drop, show 2 + i.toNat = (2 + i).toNat by omega]
      have hbi := bys_get hb (2 + i).toNat
      rw [wrapK (i + 1) (by omega) (by omega), wrapK (256 * n) (by omega) (by omega), wrapK (b.getD (2 + i).toNat 0) (by omega) (by omega), wrapK _ (by omega) (by omega)]
      refine ⟨⟨by omega, by omega⟩, ⟨by omega, by omega, ?_⟩, by omega⟩
      rw [show (i + 1).toNat = i.toNat + 1 by omega, take_snoc _ _ (by omega), num_snoc, en, hg]
    . rw [List.take_of_length_le (by omega)] at en
      rw [en]
      refine ⟨fun h6 => (take_bad ?_ (by decide)).symm, fun h6 => ?_⟩
      . rw [headK, if_neg c1, if_neg c2, if_neg c3, if_neg (by omega), if_neg g2, if_neg h5, if_pos h6]
      . rw [headK, if_neg c1, if_neg c2, if_neg c3, if_neg (by omega), if_neg g2, if_neg h5, if_neg h6]
  . rw [headK, if_neg c1, if_neg c2, if_neg c3, if_pos (by omega)]
  . rintro ⟨f, n, j1, j2, _⟩ _ _ _ hK
    simp only at hK ⊢
    have hok := head_ok hb (by rw [hK])
    rw [hK] at hok
    simp only at hok
    rw [take_good hK, wrapK ((b.length : Int) - f) (by omega) (by omega)]
    refine ⟨fun h6 => by rw [if_pos h6], fun h6 => ?_⟩
    rw [if_neg h6, wrapK (f + n) (by omega) (by omega)]
    refine ⟨⟨by decide, by omega⟩, ⟨by omega, by omega, by omega⟩, by decide, by rw [List.length_drop, List.length_take]; omega, by rw [List.length_drop, List.length_take]; omega, ?_⟩
    rw [List.drop_take, show (f + n).toNat - f.toNat = n.toNat by omega]
theorem h90 : c_r01_Take.ok Tryz.prog GL 90 := conO_ok (H := {joins := [25]}) (mkEnvO_ok (gl := GL) (l := [(105, conSem c_r01_IsTag)]) (q := []) (d := []) _ [1000000] tyOk (by kernel_rfl) ⟨h105.call, trivial⟩ trivial trivial) (by kernel_rfl) (by kernel_rfl) (Eq.mp e90 k90)
def t59 : Prop :=
  ∀ (x : q6), (q153 x) -> lenB x.1 <= q89 -> q79 <= q75 /\ lenB x.1 <= q89 /\ (∀ (y : q26), (q219 y) -> (y.1, y.2.1, y.2.2.1) = takeD x.1 -> q79 <= q75 /\ (decide (q220 y) = true -> True) /\
  (decide (q220 y) = true -> True) /\ (decide (q220 y) = true -> (q447 y) = true /\ True) /\ (q218 y) /\ (decide (q220 y) = true -> (q447 y) = true) /\ ((bif decide (q220 y) then decide
  (y.2.1 ≠ (lnZ x.1)) else false) = true -> ((q42, []), (13 : Int)) = oneD x.1) /\ ((bif decide (q220 y) then decide (y.2.1 ≠ (lnZ x.1)) else false) = false -> ((y.1.1, y.1.2), y.2.2.1) =
  oneD x.1)) /\ True
theorem e59 : t59 = Con.vc c_r01_One GL (mkEnv ty [(90, conSem c_r01_Take)] [] [] [0, 2, 3, 4, 5, 6, 20]) {} Tryz.f59.ntmps Tryz.f59.results.toList (bodyOf Tryz.f59) := by kernel_rfl
theorem k59 : t59 := by
  unfold t59
  delta q6 q153 q89 q79 q75 q26 q219 q220 q447 q218 lnZ q42 wyZ q451 wiZ q424 q547 q558
  rintro ⟨b, _⟩ hx hp
  have hp : b.length ≤ 1000000000 := hp
  have hb : Bys b := sl_bys hx.1
  try dsimp +instances only [dft_int, dft_sl, dft_str]
  simp only [true_and, and_true, eq_self_iff_true, implies_true, reduceCtorEq, false_implies, true_implies, decide_eq_true_eq, decide_eq_false_iff_not, beq_self_eq_true, Bool.not_eq_true', ne_eq, Decidable.not_not, List.nil_append, List.length_singleton, List.length_cons, List.length_nil, Nat.zero_add, Nat.add_zero, Nat.mul_one, and_self, beq_iff_eq, Bool.not_true, Bool.not_false, Bool.not_eq_false', Bool.cond_false_right, Bool.and_eq_true, imp_self, Bool.not_eq_true, Bool.cond_true_left, Bool.or_eq_true]
  refine ⟨by decide, hp, ?_⟩
  rintro ⟨⟨t, c⟩, n, e, _⟩ _ eT
  simp only at eT ⊢
  have hok : e = 0 → n ≤ b.length := fun he => by
    have := take_ok hb (by rw [← eT]; exact he)
    rw [← eT] at this
    exact this.2
  refine ⟨by decide, fun h => ?_, fun h => ?_⟩
  . have := hok h.1
    rw [oneD, ← eT, if_pos ⟨h.1, by simp only; omega⟩]
  . rw [oneD, ← eT, if_neg (fun hh => by
      simp only [Bool.and_eq_false_iff, decide_eq_false_iff_not, Decidable.not_not] at h hh
      exact h.elim (fun h => h hh.1) (fun h => by omega))]
theorem h59 : c_r01_One.ok Tryz.prog GL 59 := con_ok (H := {}) (mkEnv_ok (gl := GL) (l := [(90, conSem c_r01_Take)]) (q := []) (d := []) _ tyOk (by kernel_rfl) ⟨h90.call, trivial⟩ trivial trivial) (by kernel_rfl) (by kernel_rfl) (Eq.mp e59 k59)
def t124 : Prop :=
  ∀ (x : q6), (q153 x) -> lenB x.1 <= q89 -> ∃ (I : Int × Int × Int × Unit -> List Int × List q224 × List Int × List q224 × Unit -> Prop), ∃ (μ : Int × Int × Int × Unit -> List Int × List
  q224 × List Int × List q224 × Unit -> Nat), (x.1 = x.1 /\ I (q42, q42, q42, ()) ([], [], [], [], ())) /\ ∀ (y : Int × Int × Int × Unit) (z : List Int × List q224 × List Int × List q224 ×
  Unit), (wiZ y.1 /\ wiZ y.2.1 /\ wiZ y.2.2.1 /\ True) -> (Kd.wf q236 z.1 /\ Kd.wf q223 z.2.1 /\ Kd.wf q236 z.2.2.1 /\ Kd.wf q223 z.2.2.2.1 /\ True) -> I y z -> (decide (y.1 < (lnZ x.1)) =
  true -> (q42 <= y.1 /\ y.1 <= (lnZ x.1)) /\ lenB (List.drop (Int.toNat y.1) x.1) <= q89 /\ (∀ (y_1 : q26), (q219 y_1) -> (y_1.1, y_1.2.1, y_1.2.2.1) = takeD (List.drop (Int.toNat y.1) x.1)
  -> q79 <= q75 /\ (decide (y_1.2.2.1 ≠ q42) = true -> z.2.1 = List.map (fun (x : q27) => x.2) (rowD x.1).1 /\ z.1 = List.map (fun (x : q27) => x.1) (rowD x.1).1 /\ (y.1, y_1.2.2.1) = (rowD
  x.1).2) /\ (decide (y_1.2.2.1 ≠ q42) = false -> q77 < q79 /\ (List.length z.2.1 + List.length [(y_1.1.1, y_1.1.2)]) * (32 : Nat) <= q140 /\ List.length z.2.1 + List.length [(y_1.1.1,
  y_1.1.2)] <= q139 /\ q77 < q45 /\ (List.length z.1 + List.length [y.1]) * q545 <= q140 /\ List.length z.1 + List.length [y.1] <= q139 /\ x.1 = x.1 /\ I (wrZ (y.1 + y_1.2.1), y.2.1, y.2.2.1,
  ()) (z.1 ++ [y.1], z.2.1 ++ [(y_1.1.1, y_1.1.2)], z.2.2.1, z.2.2.2.1, ()) /\ μ (wrZ (y.1 + y_1.2.1), y.2.1, y.2.2.1, ()) (z.1 ++ [y.1], z.2.1 ++ [(y_1.1.1, y_1.1.2)], z.2.2.1, z.2.2.2.1,
  ()) < μ y z)) /\ True) /\ (decide (y.1 < (lnZ x.1)) = false -> z.2.1 = List.map (fun (x : q27) => x.2) (rowD x.1).1 /\ z.1 = List.map (fun (x : q27) => x.1) (rowD x.1).1 /\ (y.1, q42) =
  (rowD x.1).2)
theorem e124 : t124 = Con.vc c_r01_Row GL (mkEnv ty [(90, conSem c_r01_Take)] [] [] [0, 2, 3, 4, 5, 6, 7, 8, 9, 10, 11, 15, 25]) {} Tryz.f124.ntmps Tryz.f124.results.toList (bodyOf Tryz.f124) := by kernel_rfl
theorem k124 : t124 := by
  unfold t124
  delta q6 q153 q89 q224 q42 wiZ q236 q223 lnZ q26 q219 q79 q75 q27 q77 q140 q139 q45 q545 wrZ wyZ q558 q451
  rintro ⟨b, _⟩ hx hp
  have hp : b.length ≤ 1000000000 := hp
  have hb : Bys b := sl_bys hx.1
  try dsimp +instances only [dft_int, dft_sl, dft_str]
  simp only [true_and, and_true, eq_self_iff_true, implies_true, reduceCtorEq, false_implies, true_implies, decide_eq_true_eq, decide_eq_false_iff_not, beq_self_eq_true, Bool.not_eq_true', ne_eq, Decidable.not_not, List.nil_append, List.length_singleton, List.length_cons, List.length_nil, Nat.zero_add, Nat.add_zero, Nat.mul_one, and_self, beq_iff_eq, Bool.not_true, Bool.not_false, Bool.not_eq_false', Bool.cond_false_right, Bool.and_eq_true, imp_self, Bool.not_eq_true, Bool.cond_true_left, Bool.or_eq_true]
  refine ⟨fun y z => 0 ≤ y.1 ∧ y.1 ≤ b.length ∧ (z.1 : List Int).length ≤ y.1 ∧ ∃ (k : Nat) (pre : List (Int × EltT)), (b.length : Int) - y.1 ≤ k ∧ rowD b = (pre ++ (rowR b k y.1).1, (rowR b k y.1).2) ∧ z.2.1 = pre.map (·.2) ∧ z.1 = pre.map (·.1), fun y _ => ((b.length : Int) - y.1).toNat, ⟨Int.le_refl 0, by simp only; omega, by simp, b.length, [], by simp only; omega, rfl, rfl, rfl⟩, ?_⟩
  rintro ⟨i, u1, u2, _⟩ ⟨ps, out, v1, v2, _⟩ _ _ ⟨i0, i1, hl, k, pre, hk, hr, eout, eps⟩
  simp only at i0 i1 hl hk hr eout eps ⊢
  have hlo : out.length = ps.length := by rw [eout, eps, List.length_map, List.length_map]
  refine ⟨fun hlt => ⟨⟨i0, by omega⟩, by rw [lenB, List.length_drop]; omega, ?_⟩, fun hge => ?_⟩
  . rintro ⟨⟨t, c⟩, n, e, _⟩ _ eT
    simp only at eT ⊢
    obtain ⟨m, rfl⟩ : ∃ m, k = m + 1 := ⟨k - 1, by omega⟩
    have hbd : Bys (b.drop i.toNat) := bys_drop hb _
    refine ⟨by decide, fun he => ?_, fun he => ?_⟩
    . have bad : (takeD (b.drop i.toNat)).2.2 ≠ 0 := by rw [← eT]; exact he
      rw [row_bad b m i hlt bad, ← eT] at hr
      rw [hr]
      simp only [List.append_nil]
      exact ⟨eout, eps, by trivial⟩
    . subst he
      have ok : (takeD (b.drop i.toNat)).2.2 = 0 := by rw [← eT]
      have h2 := take_ok hbd ok
      rw [row_step b m i hlt ok] at hr
      rw [← eT] at h2 hr
      simp only at h2 hr
      rw [List.length_drop] at h2
      rw [wrapK (i + n) (by omega) (by omega)]
      refine ⟨by decide, by omega, by omega, by decide, by omega, by omega, ⟨by omega, by omega, by rw [List.length_append, List.length_singleton]; omega, m, pre ++ [(i, (t, c))], by omega, ?_, ?_, ?_⟩, by omega⟩
      . rw [hr]; simp
      . rw [eout]; simp
      . rw [eps]; simp
  . rw [row_end b k i hge] at hr
    rw [hr]
    simp only [List.append_nil]
    exact ⟨eout, eps, by trivial⟩
theorem h124 : c_r01_Row.ok Tryz.prog GL 124 := con_ok (H := {}) (mkEnv_ok (gl := GL) (l := [(90, conSem c_r01_Take)]) (q := []) (d := []) _ tyOk (by kernel_rfl) ⟨h90.call, trivial⟩ trivial trivial) (by kernel_rfl) (by kernel_rfl) (Eq.mp e124 k124)
def t106 : Prop :=
  ∀ (x : q6), (q153 x) -> lenB x.1 <= q89 -> lenB x.1 <= q89 /\ (∀ (y : List q224 × List Int × Int × Int × Unit), (Kd.wf q223 y.1 /\ Kd.wf q236 y.2.1 /\ wiZ y.2.2.1 /\ wiZ y.2.2.2.1 /\ True)
  -> y.1 = List.map (fun (x : q27) => x.2) (rowD x.1).1 /\ y.2.1 = List.map (fun (x : q27) => x.1) (rowD x.1).1 /\ (y.2.2.1, y.2.2.2.1) = (rowD x.1).2 -> (decide (y.2.2.2.1 ≠ q42) = true ->
  ([], y.2.2.1, y.2.2.2.1) = allD x.1) /\ (decide (y.2.2.2.1 ≠ q42) = false -> (y.1, y.2.2.1, q42) = allD x.1)) /\ True
theorem e106 : t106 = Con.vc c_r01_All GL (mkEnv ty [(124, conSem c_r01_Row)] [] [] [0, 2, 3, 4, 5, 7, 8, 17]) {} Tryz.f106.ntmps Tryz.f106.results.toList (bodyOf Tryz.f106) := by kernel_rfl
theorem k106 : t106 := by
  unfold t106
  delta q6 q153 q89 q224 q223 q236 wiZ q27 q42 wyZ q451 q558
  rintro ⟨b, _⟩ hx hp
  have hp : b.length ≤ 1000000000 := hp
  try dsimp +instances only [dft_int, dft_sl, dft_str]
  simp only [true_and, and_true, eq_self_iff_true, implies_true, reduceCtorEq, false_implies, true_implies, decide_eq_true_eq, decide_eq_false_iff_not, beq_self_eq_true, Bool.not_eq_true', ne_eq, Decidable.not_not, List.nil_append, List.length_singleton, List.length_cons, List.length_nil, Nat.zero_add, Nat.add_zero, Nat.mul_one, and_self, beq_iff_eq, Bool.not_true, Bool.not_false, Bool.not_eq_false', Bool.cond_false_right, Bool.and_eq_true, imp_self, Bool.not_eq_true, Bool.cond_true_left, Bool.or_eq_true]
  refine ⟨hp, ?_⟩
  rintro ⟨l, ps, n, e, _⟩ _ ⟨h1, h2, h3⟩
  simp only at h1 h2 h3 ⊢
  refine ⟨fun he => ?_, fun he => ?_⟩
  . rw [allD, ← h3, if_pos he]
  . rw [allD, ← h3, if_neg (fun h => h he), h1]
theorem h106 : c_r01_All.ok Tryz.prog GL 106 := con_ok (H := {}) (mkEnv_ok (gl := GL) (l := [(124, conSem c_r01_Row)]) (q := []) (d := []) _ tyOk (by kernel_rfl) ⟨h124.call, trivial⟩ trivial trivial) (by kernel_rfl) (by kernel_rfl) (Eq.mp e106 k106)
end Go.Proofs.YtgnlcpoeepfdoaaGreatDoor
end
section
namespace Go.Proofs.YtgnlcpoeepfdoaaGreatDoor
open Go Go.Vc Go.Pl Go.Proofs
def c_r03_May : Con := { args := [.dat (.sl I64)], res := [.dat .bool], pre := fun _ => True, post := fun x y => y.1 = mayO x.1 }
def c_r03_Number : Con := { args := [.dat I64], res := [.own 5 U8], pre := fun x => 0 ≤ x.1 ∧ x.1 ≤ 2147483647, post := fun x y => y.1 = numO x.1 }
def c_r03_Encode : Con := { args := [.dat (.sl I64)], res := [.own 5 U8, .dat I64], pre := fun _ => True, post := fun x y => (y.1, y.2.1) = EncO x.1 }
end Go.Proofs.YtgnlcpoeepfdoaaGreatDoor
end
section
namespace Go.Proofs.YtgnlcpoeepfdoaaGreatDoor
open Go Go.Vc Go.Pl Go.Proofs
set_option linter.unusedVariables false
set_option linter.unusedSimpArgs false
abbrev q503 (p0 : q6) (p1 : q10) := (List.getD p0.1 (Int.toNat p1.1) (Kd.dft q558) < q547)
abbrev q237 (p0 : q6) (p1 : q10) := (decide (q503 p0 p1) = false -> (decide (q503 p0 p1) == false) = true /\ True)
abbrev q504 := (Kd.dft q558)
abbrev q238 (p0 : q6) (p1 : q10) := (bif decide (q503 p0 p1) then true else decide ((2147483647 : Int) < List.getD p0.1 (Int.toNat p1.1) q504))
abbrev q239 (p0 : q6) (p1 : q10) := (decide (q503 p0 p1) == false)
abbrev q240 (p0 : q6) (p1 : q10) := (List.getD p0.1 (Int.toNat p1.1) q504 < q424)
abbrev q241 (p0 : q10) (p1 : q6) := (q424 <= p0.1 /\ p0.1 < (lnZ p1.1))
abbrev q242 := (Kd.dft q558)
abbrev q243 (p0 : q1) := (wrZ ((128 : Int) + Int.tmod p0.1 (128 : Int)))
abbrev q244 (p0 : q6) := (wrZ ((40 : Int) * List.getD p0.1 q450 q504) + List.getD p0.1 q578 q504)
abbrev q245 (p0 : q6) (p1 : q6) := (List.length p0.1 + List.length p1.1)
def t108 : Prop :=
  ∀ (x : q6), (Kd.wf q236 x.1 /\ True) -> True -> (decide ((lnZ x.1) < q80) = false -> True) /\ (decide ((lnZ x.1) < q80) = false -> (decide ((lnZ x.1) < q80) == false) = true /\ True) /\
  (decide ((lnZ x.1) < q80) = false -> (decide ((lnZ x.1) < q80) == false) = true /\ True) /\ (decide ((lnZ x.1) < q80) = false -> (decide ((lnZ x.1) < q80) == false) = true) /\ ((bif decide
  ((lnZ x.1) < q80) then true else decide ((20 : Int) < (lnZ x.1))) = true -> false = mayO x.1) /\ ((bif decide ((lnZ x.1) < q80) then true else decide ((20 : Int) < (lnZ x.1))) = false -> ∃
  (I : q8), ∃ (μ : q9), (Value.bool false = Value.bool false /\ x.1 = x.1 /\ I (q42, false, ()) ()) /\ ∀ (y : q10) (z : Unit), (q88 y) -> True -> I y z -> (decide (y.1 < (lnZ x.1)) = true ->
  (q241 y x) /\ (decide (q240 x y) = false -> True) /\ (decide (q240 x y) = false -> True) /\ (decide (q240 x y) = false -> (q239 x y) = true /\ (q239 x y) = true /\ (q241 y x) /\ True) /\
  (q237 x y) /\ (q237 x y) /\ (decide (q240 x y) = false -> (q239 x y) = true) /\ ((q238 x y) = true -> false = mayO x.1) /\ ((q238 x y) = false -> Value.bool false = Value.bool false /\ x.1
  = x.1 /\ I (wrZ (q90 y), y.2.1, ()) () /\ μ (wrZ (q90 y), y.2.1, ()) () < μ y z)) /\ (decide (y.1 < (lnZ x.1)) = false -> (q70 x) /\ (decide (q80 < List.getD x.1 q77 q242) = true -> false =
  mayO x.1) /\ (decide (q80 < List.getD x.1 q77 q242) = false -> (q70 x) /\ (decide (List.getD x.1 q77 q242 < q80) = true -> (q71 x) /\ decide (List.getD x.1 q45 q242 <= (39 : Int)) = mayO
  x.1) /\ (decide (List.getD x.1 q77 q242 < q80) = false -> (q71 x) /\ decide (List.getD x.1 q45 q242 <= (2147483567 : Int)) = mayO x.1))))
theorem e108 : t108 = Con.vc c_r03_May GL (mkEnv ty [] [] [] [0, 2, 3, 11, 15, 29, 33, 37]) {} Tryz.f108.ntmps Tryz.f108.results.toList (bodyOf Tryz.f108) := by kernel_rfl
theorem k108 : t108 := by
  unfold t108
  delta q6 q236 lnZ q80 q8 q9 q42 q10 q88 q241 q240 q239 q237 q238 wrZ q90 q70 q77 q242 q71 q45 q558 wiZ wbZ q424 q504 q503 q464 q547
  rintro ⟨l, _⟩ hx hp
  try dsimp +instances only [dft_int, dft_sl, dft_str]
  simp only [true_and, and_true, eq_self_iff_true, implies_true, reduceCtorEq, false_implies, true_implies, decide_eq_true_eq, decide_eq_false_iff_not, beq_self_eq_true, Bool.not_eq_true', ne_eq, Decidable.not_not, List.nil_append, List.length_singleton, List.length_cons, List.length_nil, Nat.zero_add, Nat.add_zero, Nat.mul_one, and_self, beq_iff_eq, Bool.not_true, Bool.not_false, Bool.not_eq_false', Bool.cond_false_right, Bool.and_eq_true, imp_self, Bool.not_eq_true, Bool.cond_true_left, Bool.or_eq_true]
  refine ⟨fun h => (may_len h).symm, fun h => ?_⟩
  simp only [Bool.or_eq_false_iff, decide_eq_false_iff_not] at h
  refine ⟨fun y _ => 0 ≤ y.1 ∧ y.1 ≤ l.length ∧ ∀ j, j < y.1.toNat → 0 ≤ l.getD j 0 ∧ l.getD j 0 ≤ 2147483647, fun y _ => ((l.length : Int) - y.1).toNat, ⟨Int.le_refl 0, by simp only; omega, fun j hj => by simp at hj⟩, ?_⟩
  rintro ⟨i, b, _⟩ _ _ ⟨i0, i1, i2⟩
  simp only at i0 i1 i2 ⊢
  have hw1 : IntKind.wrap .i64 (i + 1) = i + 1 := wrapK _ (by omega) (by omega)
  rw [hw1]
  refine ⟨fun hlt => ⟨⟨i0, hlt⟩, fun hn => ⟨hn, hn, i0, hlt⟩, fun hb => (may_in (by omega) hb).symm, fun hg => ⟨⟨by omega, by omega, fun j hj => ?_⟩, by omega⟩⟩, fun hge => ?_⟩
  . simp only [Bool.or_eq_false_iff, decide_eq_false_iff_not] at hg
    by_cases hji : j < i.toNat
    . exact i2 j hji
    . rw [show j = i.toNat by omega]; omega
  . have hr := may_rest (l := l) (by omega) (by omega) (fun j hj => i2 j (by omega))
    have h0 := i2 0 (by omega)
    rw [hr]
    refine ⟨⟨by omega, by omega⟩, fun e => by rw [if_neg (by omega), if_neg (by omega)], fun e0 => ⟨⟨by omega, by omega⟩, fun e => ⟨⟨by omega, by omega⟩, by rw [if_pos (by omega)]; exact decide_eq_decide.2 (by omega)⟩, fun e1 => ⟨⟨by omega, by omega⟩, by rw [if_neg (by omega), if_pos (by omega)]⟩⟩⟩
theorem h108 : c_r03_May.ok Tryz.prog GL 108 := con_ok (H := {}) (mkEnv_ok (gl := GL) (l := []) (q := []) (d := []) _ tyOk (by kernel_rfl) trivial trivial trivial) (by kernel_rfl) (by kernel_rfl) (Eq.mp e108 k108)
def t109 : Prop :=
  ∀ (x : q1), (q38 x) -> q42 <= x.1 /\ x.1 <= (2147483647 : Int) -> q101 ≠ q42 /\ q101 ≠ q42 /\ ∃ (I : q19), ∃ (μ : q20), (Value.slice none q77 q77 = Value.slice none q77 q77 /\ I (wrZ
  (Int.tdiv x.1 q101), ()) ([IntKind.wrap IntKind.u8 (Int.tmod x.1 q101)], ())) /\ ∀ (y : q1) (z : q6), (q38 y) -> (q153 z) -> I y z -> (decide (q148 y) = true -> q101 ≠ q42 /\ q77 < q45 /\
  (List.length [IntKind.wrap IntKind.u8 (q243 y)] + List.length z.1) * q45 <= q140 /\ List.length [IntKind.wrap IntKind.u8 (q243 y)] + List.length z.1 <= q139 /\ q101 ≠ q42 /\ Value.slice
  none q77 q77 = Value.slice none q77 q77 /\ I (wrZ (Int.tdiv y.1 q101), ()) ([IntKind.wrap IntKind.u8 (q243 y)] ++ z.1, ()) /\ μ (wrZ (Int.tdiv y.1 q101), ()) ([IntKind.wrap IntKind.u8 (q243
  y)] ++ z.1, ()) < μ y z) /\ (decide (q148 y) = false -> z.1 = numO x.1)
theorem e109 : t109 = Con.vc c_r03_Number GL (mkEnv ty [] [] [] [0, 2, 3, 11]) {} Tryz.f109.ntmps Tryz.f109.results.toList (bodyOf Tryz.f109) := by kernel_rfl
theorem k109 : t109 := by
  unfold t109
  delta q1 q38 q42 q101 q19 q20 q77 wrZ q6 q153 q148 q45 q243 q140 q139 wiZ wyZ q424
  rintro ⟨n, _⟩ hx hp
  obtain ⟨p1, p2⟩ := hp
  simp only at p1 p2
  have h4 := small4 p2
  try dsimp +instances only [dft_int, dft_sl, dft_str]
  simp only [true_and, and_true, eq_self_iff_true, implies_true, reduceCtorEq, false_implies, true_implies, decide_eq_true_eq, decide_eq_false_iff_not, beq_self_eq_true, Bool.not_eq_true', ne_eq, Decidable.not_not, List.nil_append, List.length_singleton, List.length_cons, List.length_nil, Nat.zero_add, Nat.add_zero, Nat.mul_one, and_self, beq_iff_eq, Bool.not_true, Bool.not_false, Bool.not_eq_false', Bool.cond_false_right, Bool.and_eq_true, imp_self, Bool.not_eq_true, Bool.cond_true_left, Bool.or_eq_true]
  have hd : ∀ m : Int, 0 ≤ m → m ≤ 2147483647 → IntKind.wrap .i64 (m.tdiv 128) = m / 128 := fun m h0 h1 => by
    rw [Int.tdiv_eq_ediv_of_nonneg h0, wrapK _ (by omega) (by omega)]
  have hm : ∀ m : Int, 0 ≤ m → m.tmod 128 = m % 128 := fun m h0 => Int.tmod_eq_emod_of_nonneg h0
  rw [hd n p1 p2, hm n p1]
  refine ⟨by decide, by decide, fun y z => ∃ j : Nat, j ≤ 4 ∧ y.1 = n / 128 ^ (j + 1) ∧ z.1 = hiD j n ++ [n % 128] ∧ (0 < j → 0 < n / 128 ^ j), fun y _ => y.1.toNat, ⟨0, by omega, by simp, by simp only [hiD, List.nil_append]; rw [wrap_u8]; congr 1; omega, fun h => absurd h (by omega)⟩, ?_⟩
  rintro ⟨y, _⟩ ⟨z, _⟩ _ _ ⟨j, j4, ey, ez, hj⟩
  simp only at ey ez ⊢
  subst ez
  have e1 := pow_div n j j4
  have hb : 0 ≤ y ∧ y ≤ 2147483647 := by
    have : j = 0 ∨ j = 1 ∨ j = 2 ∨ j = 3 ∨ j = 4 := by omega
    rcases this with rfl | rfl | rfl | rfl | rfl <;> simp only [Nat.reduceAdd, Int.reducePow] at ey <;> omega
  refine ⟨fun hlt => ?_, fun hge => ?_⟩
  . have : j < 4 := by
      rcases Nat.lt_or_ge j 4 with h | h
      . exact h
      . rw [show j = 4 by omega] at e1 ey; omega
    rw [hd y hb.1 hb.2, hm y hb.1, wrapK (128 + y % 128) (by omega) (by omega)]
    have hl : (hiD j n ++ [n % 128]).length ≤ 5 := by rw [List.length_append, hi_length]; simp; omega
    refine ⟨by decide, by decide, by omega, by omega, by decide, ⟨j + 1, by omega, ?_, ?_, fun _ => by rw [← ey]; exact hlt⟩, by omega⟩
    . rw [pow_div n (j + 1) (by omega), ← ey]
    . rw [hiD, ← ey, wrap_u8]
      simp only [List.cons_append, List.nil_append]
      congr 1
      omega
  . have hN : hiN n = j := hi_is p1 j4 (by omega) hj
    rw [numO, hN]
theorem h109 : c_r03_Number.ok Tryz.prog GL 109 := con_ok (H := {}) (mkEnv_ok (gl := GL) (l := []) (q := []) (d := []) _ tyOk (by kernel_rfl) trivial trivial trivial) (by kernel_rfl) (by kernel_rfl) (Eq.mp e109 k109)
def t93 : Prop :=
  ∀ (x : q6), (Kd.wf q236 x.1 /\ True) -> True -> True /\ (∀ (y : q4), (q53 y) -> y.1 = mayO x.1 -> ((!y.1) = true -> ([], q80) = EncO x.1) /\ ((!y.1) = false -> (q70 x) /\ (q71 x) /\ (q42 <=
  wrZ (q244 x) /\ wrZ (q244 x) <= (2147483647 : Int)) /\ (∀ (y : q6), (q153 y) -> y.1 = numO (wrZ (q244 x)) -> ∃ (I : q19), ∃ (μ : q20), (Value.bool false = Value.bool false /\ q42 = q42 /\
  Value.slice none q77 q77 = Value.slice none q77 q77 /\ x.1 = x.1 /\ I (q80, ()) (y.1, ())) /\ ∀ (y : q1) (z : q6), (q38 y) -> (q153 z) -> I y z -> (decide (y.1 < (lnZ x.1)) = true -> (q42
  <= y.1 /\ y.1 < (lnZ x.1)) /\ (q42 <= List.getD x.1 (q44 y) q242 /\ List.getD x.1 (q44 y) q242 <= (2147483647 : Int)) /\ (∀ (y_1 : q6), (q153 y_1) -> y_1.1 = numO (List.getD x.1 (q44 y)
  q242) -> q77 < q45 /\ (q245 z y_1) * q45 <= q140 /\ List.length z.1 + List.length y_1.1 <= q139 /\ Value.bool false = Value.bool false /\ q42 = q42 /\ Value.slice none q77 q77 = Value.slice
  none q77 q77 /\ x.1 = x.1 /\ I (wrZ (q147 y), ()) (z.1 ++ y_1.1, ()) /\ μ (wrZ (q147 y), ()) (z.1 ++ y_1.1, ()) < μ y z) /\ True) /\ (decide (y.1 < (lnZ x.1)) = false -> (z.1, q42) = EncO
  x.1)) /\ True)) /\ True
theorem e93 : t93 = Con.vc c_r03_Encode GL (mkEnv ty [(108, conSem c_r03_May), (109, conSem c_r03_Number)] [] [] [0, 2, 3, 4, 5, 8, 21]) {} Tryz.f93.ntmps Tryz.f93.results.toList (bodyOf Tryz.f93) := by kernel_rfl
theorem k93 : t93 := by
  unfold t93
  delta q6 q236 q4 q53 q80 q70 q71 q42 wrZ q244 q153 q19 q20 q77 q1 q38 lnZ q44 q242 q45 q245 q140 q139 q147 q558 wbZ q424 q464 q450 q504 q578 wyZ wiZ
  rintro ⟨l, _⟩ hx hp
  try dsimp +instances only [dft_int, dft_sl, dft_str]
  simp only [true_and, and_true, eq_self_iff_true, implies_true, reduceCtorEq, false_implies, true_implies, decide_eq_true_eq, decide_eq_false_iff_not, beq_self_eq_true, Bool.not_eq_true', ne_eq, Decidable.not_not, List.nil_append, List.length_singleton, List.length_cons, List.length_nil, Nat.zero_add, Nat.add_zero, Nat.mul_one, and_self, beq_iff_eq, Bool.not_true, Bool.not_false, Bool.not_eq_false', Bool.cond_false_right, Bool.and_eq_true, imp_self, Bool.not_eq_true, Bool.cond_true_left, Bool.or_eq_true]
  simp only [all_bool]
  refine ⟨fun h => by rw [EncO, h]; rfl, fun h => ?_⟩
  obtain ⟨h1, h2, h3, h4, h5⟩ := may_args h
  have hg : ∀ i, i < l.length → 0 ≤ l.getD i 0 ∧ l.getD i 0 ≤ 2147483647 := fun i hi => h3 _ (by
    rw [List.getD_eq_getElem?_getD, List.getElem?_eq_getElem hi]
    exact List.getElem_mem _)
  have g0 := hg 0 (by omega)
  have g1 := hg 1 (by omega)
  rw [wrapK (40 * l.getD 0 0) (by omega) (by omega), wrapK (40 * l.getD 0 0 + l.getD 1 0) (by omega) (by omega)]
  refine ⟨⟨by omega, by omega⟩, ⟨by omega, by omega⟩, ⟨h4, h5⟩, ?_⟩
  rintro ⟨a, _⟩ _ ea
  simp only at ea ⊢
  refine ⟨fun y z => 2 ≤ y.1 ∧ y.1 ≤ l.length ∧ z.1 = encP l y.1.toNat, fun y _ => ((l.length : Int) - y.1).toNat, ⟨by simp, by simp only; omega, by rw [ea]; exact (encP_two l).symm⟩, ?_⟩
  rintro ⟨i, _⟩ ⟨z, _⟩ _ _ ⟨i0, i1, ez⟩
  simp only at i0 i1 ez ⊢
  have hw1 : IntKind.wrap .i64 (i + 1) = i + 1 := wrapK _ (by omega) (by omega)
  rw [hw1]
  refine ⟨fun hlt => ⟨⟨by omega, hlt⟩, hg i.toNat (by omega), ?_⟩, fun hge => ?_⟩
  . rintro ⟨c, _⟩ _ ec
    simp only at ec ⊢
    have l1 := encP_len l i.toNat
    have l2 := num_length (l.getD i.toNat 0)
    rw [← ez] at l1
    rw [← ec] at l2
    refine ⟨by decide, by omega, by omega, ⟨by omega, by omega, ?_⟩, by omega⟩
    rw [show (i + 1).toNat = i.toNat + 1 by omega, encP_step (by omega) (by omega), ez, ec]
  . rw [EncO, h, if_pos rfl, ez, encP_all (by omega)]
theorem h93 : c_r03_Encode.ok Tryz.prog GL 93 := con_ok (H := {}) (mkEnv_ok (gl := GL) (l := [(108, conSem c_r03_May), (109, conSem c_r03_Number)]) (q := []) (d := []) _ tyOk (by kernel_rfl) ⟨h108.call, h109.call, trivial⟩ trivial trivial) (by kernel_rfl) (by kernel_rfl) (Eq.mp e93 k93)
end Go.Proofs.YtgnlcpoeepfdoaaGreatDoor
end
