/- Texts of a verified walk, led together: DerA, DerW, DerrA, DerrW, OidA, OidW. -/
import Derived.Test.YtlpbhgcndebkcaaGreatDoorZW03
import Derived.Test.YtlpbhgcndebkcaaGreatDoorZV09
import Derived.Test.YtlpbhgcndebkcaaGreatDoorZV08
set_option linter.unusedVariables false
set_option linter.unusedSimpArgs false
section
namespace Go.Proofs.YtlpbhgcndebkcaaGreatDoor
open Go Go.Vc Go.Pl Go.Proofs
def c_der_isTag : Con := { args := [.dat I64], res := [.dat .bool], pre := fun _ => True, post := fun x y => y.1 = isTagD x.1 }
def c_der_length : Con := { args := [.dat I64], res := [.own 5 U8], pre := fun x => 0 ≤ x.1 ∧ x.1 ≤ 16777215, post := fun x y => y.1 = lngD x.1 }
def c_slices_Clone_byte_byte : Con := { args := [.dat BY], res := [.dat BY], pre := fun x => lenB x.1 ≤ 1000000000, post := fun x y => y.1 = x.1 }
def c_slices_Concat_byte_byte : Con := { args := [.dat (.sl BY)], res := [.own 5 U8], pre := fun x => lenF x.1 ≤ 1000000000, post := fun x y => y.1 = x.1.flatten }
def c_der_Put : Con := { args := [.dat BY, .dat I64, .dat (.sl BY)], res := [.own 5 U8, .dat I64], pre := fun x => lenB x.1 ≤ 900000000, post := fun x y => (y.1, y.2.1) = PutD x.1 x.2.1 x.2.2.1.flatten }
def c_der_head : Con := { args := [.dat BY], res := [.dat I64, .dat I64, .dat I64, .dat I64], pre := fun x => lenB x.1 ≤ 1000000000, post := fun x y => (y.1, y.2.1, y.2.2.1, y.2.2.2.1) = headK x.1 }
def c_der_Take : Con := { args := [.dat BY], res := [.dat ET, .dat I64, .dat I64], pre := fun x => lenB x.1 ≤ 1000000000, post := fun x y => (y.1, y.2.1, y.2.2.1) = takeD x.1 }
def c_der_One : Con := { args := [.dat BY], res := [.dat ET, .dat I64], pre := fun x => lenB x.1 ≤ 1000000000, post := fun x y => (y.1, y.2.1) = oneD x.1 }
def c_der_Size : Con := { args := [.dat I64], res := [.dat I64], pre := fun _ => True, post := fun x y => y.1 = sizeD x.1 }
def c_der_All : Con := { args := [.dat BY], res := [.own 68 ET, .dat I64, .dat I64], pre := fun x => lenB x.1 ≤ 1000000000, post := fun x y => (y.1, y.2.1, y.2.2.1) = allD x.1 }
end Go.Proofs.YtlpbhgcndebkcaaGreatDoor
end
section
namespace Go.Proofs.YtlpbhgcndebkcaaGreatDoor
open Go Go.Vc Go.Pl Go.Proofs
set_option linter.unusedVariables false
set_option linter.unusedSimpArgs false
abbrev q19 := (Int × Unit -> List Int × Unit -> Prop)
abbrev q20 := (Int × Unit -> List Int × Unit -> Nat)
abbrev q21 := (Int × Int × Int × Int × Unit)
abbrev q22 := ((Int × List Int) × Int × Int × Unit)
abbrev q430 (p0 : q1) := (bif decide (q529 <= p0.1) then decide (p0.1 <= (255 : Int)) else false)
abbrev q184 (p0 : q1) := ((q430 p0) = true -> ((q430 p0) == true) = true /\ True)
abbrev q490 := (Kd.dft (Kd.sl (Kd.int IntKind.u8)))
abbrev q535 := (140737488355328 : Nat)
abbrev q491 := (9223372036854775807 : Nat)
abbrev q185 (p0 : q1) (p1 : q18) (p2 : q6) (p3 : q7) (p4 : q19) (p5 : q20) := (decide (p0.1 < (lnZ p1.1)) = true -> (q421 <= p0.1 /\ p0.1 < (lnZ p1.1)) /\ q437 < q527 /\ (List.length p2.1 +
  List.length (List.getD p1.1 (q411 p0) q490)) * q527 <= q535 /\ List.length p2.1 + List.length (List.getD p1.1 (q411 p0) q490) <= q491 /\ (lnZ p1.1) = (lnZ p1.1) /\ p1.1 = p1.1 /\ Value.bool
  false = Value.bool false /\ p3.1 = p3.1 /\ (lnZ p1.1) = (lnZ p1.1) /\ p1.1 = p1.1 /\ p3.2.1 = p3.2.1 /\ Value.slice none q437 q437 = Value.slice none q437 q437 /\ p1.1 = p1.1 /\ p4 (wrZ
  (p0.1 + q528), ()) (p2.1 ++ List.getD p1.1 (q411 p0) q490, ()) /\ p5 (wrZ (p0.1 + q528), ()) (p2.1 ++ List.getD p1.1 (q411 p0) q490, ()) < p5 p0 p2)
abbrev q431 (p0 : q7) := (p0.2.1 - wrZ (q529 - q529))
abbrev q186 (p0 : q7) := (List.replicate (Int.toNat (wrZ (q431 p0))) q477)
abbrev q187 (p0 : q7) (p1 : q18) := (p0.2.1 + (lnZ (List.getD p1.1 (Int.toNat p0.1) q490)))
abbrev q188 := (Kd.sl (Kd.sl (Kd.int IntKind.u8)))
abbrev q189 (p0 : List Int × Int × List (List Int) × Unit) (p1 : Int × Int × Int × Unit) := (lnZ (List.getD p0.2.2.1 (Int.toNat p1.1) q490))
abbrev q537 (p0 : q6) := (wrZ (List.getD p0.1 (1 : Nat) q565) - (128 : Int))
abbrev q492 (p0 : q6) := (bif decide (wrZ (q537 p0) = q529) then true else decide ((3 : Int) < wrZ (q537 p0)))
abbrev q440 (p0 : q6) := ((2 : Int) < (lnZ p0.1))
abbrev q190 (p0 : q6) := (((q492 p0) == false && (q492 p0) == false) = true -> decide (q440 p0) = true -> ((q492 p0) == false && (q492 p0) == false && decide (q440 p0) == true) = true /\
  True)
abbrev q191 (p0 : q6) := ((q492 p0) == false && (q492 p0) == false && decide (q440 p0) == true)
abbrev q432 (p0 : q6) := ((bif decide (wrZ (q537 p0) = q529) then true else decide ((3 : Int) < wrZ (q537 p0))) == false)
abbrev q192 (p0 : q6) := ((q492 p0) = false -> (q432 p0) = true /\ True)
abbrev q193 (p0 : q6) := ((q492 p0) == false && (q492 p0) == false)
abbrev q493 (p0 : q6) := (wrZ (q537 p0) = q529)
abbrev q494 (p0 : q6) := ((3 : Int) < wrZ (q537 p0))
abbrev q194 (p0 : q6) := (bif bif decide (q493 p0) then true else decide (q494 p0) then true else bif decide (q440 p0) then decide (List.getD p0.1 (2 : Nat) q477 = q421) else false)
abbrev q536 (p0 : q6) := (Int.toNat (wrZ ((2 : Int) + wrZ (wrZ (List.getD p0.1 (1 : Nat) q565) - (128 : Int)))))
abbrev q495 (p0 : q6) := (List.drop (2 : Nat) (List.take (q536 p0) p0.1))
abbrev q195 (p0 : q7) (p1 : q6) := (↑(BitVec.toNat (BitVec.ofInt (64 : Nat) (wrZ (p0.2.1 * q445 ^ q524)) ||| BitVec.ofInt (64 : Nat) (wrZ (List.getD (q495 p1) (Int.toNat p0.1) q477)))) :
  Int)
abbrev q196 (p0 : q6) := ((q492 p0) = false -> True)
abbrev q197 (p0 : q6) := (bif decide (q493 p0) then true else decide (q494 p0))
abbrev q198 (p0 : q7) (p1 : q6) := (p0.1 < (lnZ (q495 p1)))
abbrev q199 (p0 : q6) := (lnZ (q495 p0))
abbrev q200 (p0 : q6) := (List.take (q536 p0) p0.1)
abbrev q201 (p0 : q6) := (decide (q493 p0) == false)
abbrev q202 (p0 : q6) := ((lnZ p0.1) < wrZ ((2 : Int) + wrZ (wrZ (List.getD p0.1 (1 : Nat) q565) - (128 : Int))))
abbrev q203 (p0 : q6) := (wrZ (q537 p0) = q421)
abbrev q204 (p0 : q6) := (q445 + wrZ (q537 p0))
abbrev q496 (p0 : q6) := (List.getD p0.1 q527 q565)
abbrev q205 (p0 : q6) := (wrZ (q496 p0) - (128 : Int))
abbrev q206 (p0 : q6) := (List.getD p0.1 q437 q477)
abbrev q207 (p0 : q6) := (List.getD p0.1 q527 q477)
abbrev q208 (p0 : q6) := (q445 < (lnZ p0.1))
abbrev q433 (p0 : q21) := (p0.2.2.2.1 = q529)
abbrev q209 (p0 : q21) := (decide (q433 p0) = true -> (decide (q433 p0) == true) = true /\ (decide (q433 p0) == true) = true /\ True)
abbrev q210 (p0 : q21) := (wiZ p0.1 /\ wiZ p0.2.1 /\ wiZ p0.2.2.1 /\ wiZ p0.2.2.2.1 /\ True)
abbrev q434 (p0 : q22) := (decide (p0.2.2.1 = q529) == true)
abbrev q211 (p0 : q22) := (decide (p0.2.2.1 = q421) = true -> (q434 p0) = true /\ (q434 p0) = true /\ True)
abbrev q438 := (Kd.pair q541 (Kd.sl (Kd.int IntKind.u8)))
abbrev q212 (p0 : q22) := (Kd.wf q438 p0.1 /\ wiZ p0.2.1 /\ wiZ p0.2.2.1 /\ True)
abbrev q213 (p0 : q22) := (p0.2.2.1 = q421)
abbrev q436 (p0 : q1) (p1 : q1) (p2 : q22) := (wrZ (p0.1 + p1.1) + (lnZ p2.1.2))
abbrev q497 (p0 : q22) (p1 : q6) (p2 : Int × Unit -> Unit × (Int × Unit) × (List Int × Unit) × List (Int × List Int) × Unit -> Prop) (p3 : q1) (p4 : Unit × (Int × Unit) × (List Int × Unit)
  × List (Int × List Int) × Unit) (p5 : Int × Unit -> Unit × (Int × Unit) × (List Int × Unit) × List (Int × List Int) × Unit -> Nat) := ((True /\ (∀ (y_2 : q1), (wiZ y_2.1 /\ True) -> y_2.1 =
  sizeD (lnZ p0.1.2) -> (((q529 = q529 /\ q529 = q529 /\ Value.slice none q540 q540 = Value.slice none q540 q540 /\ p1.1 = p1.1 /\ p2 (wrZ (p3.1 + p0.2.1), ()) ((), (wrZ (wrZ (p3.1 + y_2.1) +
  (lnZ p0.1.2)), ()), (p4.2.2.1.1, ()), p4.2.2.2.1 ++ [(p0.1.1, p0.1.2)], ()) /\ p5 (wrZ (p3.1 + p0.2.1), ()) ((), (wrZ (wrZ (p3.1 + y_2.1) + (lnZ p0.1.2)), ()), (p4.2.2.1.1, ()), p4.2.2.2.1
  ++ [(p0.1.1, p0.1.2)], ()) < p5 p3 p4) /\ True) /\ True) /\ True) /\ True) /\ True)
abbrev q214 (p0 : q22) (p1 : q6) (p2 : Int × Unit -> Unit × (Int × Unit) × (List Int × Unit) × List (Int × List Int) × Unit -> Prop) (p3 : q1) (p4 : Unit × (Int × Unit) × (List Int × Unit)
  × List (Int × List Int) × Unit) (p5 : Int × Unit -> Unit × (Int × Unit) × (List Int × Unit) × List (Int × List Int) × Unit -> Nat) := (((True /\ (∀ (y_2 : q1), (wiZ y_2.1 /\ True) -> y_2.1
  = sizeD (lnZ p0.1.2) -> ((((q421 = q421 /\ q421 = q421 /\ Value.slice none q437 q437 = Value.slice none q437 q437 /\ p1.1 = p1.1 /\ p2 (wrZ (p3.1 + p0.2.1), ()) ((), (wrZ (q436 p3 y_2 p0),
  ()), (p4.2.2.1.1, ()), p4.2.2.2.1 ++ [(p0.1.1, p0.1.2)], ()) /\ p5 (wrZ (p3.1 + p0.2.1), ()) ((), (wrZ (q436 p3 y_2 p0), ()), (p4.2.2.1.1, ()), p4.2.2.2.1 ++ [(p0.1.1, p0.1.2)], ()) < p5 p3
  p4) /\ True) /\ True) /\ True) /\ ((((q421 = q421 /\ q421 = q421 /\ Value.slice none q437 q437 = Value.slice none q437 q437 /\ p1.1 = p1.1 /\ p2 (wrZ (p3.1 + p0.2.1), ()) ((), (wrZ (q436 p3
  y_2 p0), ()), (p4.2.2.1.1, ()), p4.2.2.2.1 ++ [(p0.1.1, p0.1.2)], ()) /\ p5 (wrZ (p3.1 + p0.2.1), ()) ((), (wrZ (q436 p3 y_2 p0), ()), (p4.2.2.1.1, ()), p4.2.2.2.1 ++ [(p0.1.1, p0.1.2)],
  ()) < p5 p3 p4) /\ True) /\ True) /\ True) /\ True) /\ True) /\ (q497 p0 p1 p2 p3 p4 p5) /\ True) /\ ((q497 p0 p1 p2 p3 p4 p5) /\ True) /\ True)
abbrev q215 (p0 : Unit × (Int × Unit) × (List Int × Unit) × List (Int × List Int) × Unit) (p1 : q6) := (decide (p0.2.1.1 = (lnZ p1.1)) = false -> (q421 <= p0.2.1.1 /\ p0.2.1.1 <= (lnZ
  p1.1)) /\ lenB (List.drop (Int.toNat p0.2.1.1) p1.1) <= (1000000000 : Nat) /\ (∀ (y : q22), (Kd.wf q438 y.1 /\ wiZ y.2.1 /\ wiZ y.2.2.1 /\ True) -> (y.1, y.2.1, y.2.2.1) = takeD (List.drop
  (Int.toNat p0.2.1.1) p1.1) -> (2 : Nat) <= (65536 : Nat) /\ ([], p0.2.1.1, y.2.2.1) = allD p1.1) /\ True)
abbrev q216 := (Kd.sl q438)
abbrev q217 := (List Int × Unit)
abbrev q218 := (Int × List Int)
abbrev q435 (p0 : q22) (p1 : q6) (p2 : Int × Unit -> Unit × (Int × Unit) × q217 × List q218 × Unit -> Prop) (p3 : q1) (p4 : Unit × (Int × Unit) × q217 × List q218 × Unit) (p5 : Int × Unit
  -> Unit × (Int × Unit) × q217 × List q218 × Unit -> Nat) := ((True /\ (∀ (y_2 : q1), (wiZ y_2.1 /\ True) -> y_2.1 = sizeD (lnZ p0.1.2) -> (((q529 = q529 /\ q529 = q529 /\ Value.slice none
  q540 q540 = Value.slice none q540 q540 /\ p1.1 = p1.1 /\ p2 (wrZ (p3.1 + p0.2.1), ()) ((), (wrZ (wrZ (p3.1 + y_2.1) + (lnZ p0.1.2)), ()), (p4.2.2.1.1, ()), p4.2.2.2.1 ++ [(p0.1.1, p0.1.2)],
  ()) /\ p5 (wrZ (p3.1 + p0.2.1), ()) ((), (wrZ (wrZ (p3.1 + y_2.1) + (lnZ p0.1.2)), ()), (p4.2.2.1.1, ()), p4.2.2.2.1 ++ [(p0.1.1, p0.1.2)], ()) < p5 p3 p4) /\ True) /\ True) /\ True) /\
  True) /\ True)
def t140 : Prop :=
  ∀ (x : q1), (q36 x) -> True -> (decide (q39 x) = true -> True) /\ (decide (q39 x) = true -> (decide (q39 x) == true) = true /\ True) /\ (decide (q39 x) = true -> (decide (q39 x) == true) =
  true) /\ ((q430 x) = true -> True) /\ (q184 x) /\ (q184 x) /\ ((q430 x) = true -> ((q430 x) == true) = true) /\ (bif bif decide (q39 x) then decide (x.1 <= (255 : Int)) else false then
  decide (wrZ (↑(BitVec.toNat (BitVec.ofInt (64 : Nat) x.1 &&& BitVec.ofInt (64 : Nat) (31 : Int))) : Int) ≠ (31 : Int)) else false) = isTagD x.1
theorem e140 : t140 = Con.vc c_der_isTag GL (mkEnv ty [] [] [] [0, 2]) {} Tryz.f140.ntmps Tryz.f140.results.toList (bodyOf Tryz.f140) := by kernel_rfl
theorem k140 : t140 := by
  unfold t140
  delta q1 q36 q39 q430 q184 wrZ wiZ q421 q529
  rintro ⟨t, _⟩ hx hp
  try dsimp +instances only [dft_int, dft_sl, dft_str]
  simp only [true_and, and_true, eq_self_iff_true, implies_true, reduceCtorEq, false_implies, true_implies, decide_eq_true_eq, decide_eq_false_iff_not, beq_self_eq_true, Bool.not_eq_true', ne_eq, Decidable.not_not, List.nil_append, List.length_singleton, List.length_cons, List.length_nil, Nat.zero_add, Nat.add_zero, Nat.mul_one, and_self, beq_iff_eq, Bool.not_true, Bool.not_false, Bool.not_eq_false', Bool.cond_false_right, Bool.and_eq_true, imp_self, Bool.not_eq_true, Bool.cond_true_left, Bool.or_eq_true]
  exact isTag_eq t
theorem h140 : c_der_isTag.ok Tryz.prog GL 140 := con_ok (H := {}) (mkEnv_ok (gl := GL) (l := []) (q := []) (d := []) _ tyOk (by kernel_rfl) trivial trivial trivial) (by kernel_rfl) (by kernel_rfl) (Eq.mp e140 k140)
def t115 : Prop :=
  ∀ (x : q1), (q36 x) -> q40 <= x.1 /\ x.1 <= (16777215 : Int) -> (decide (x.1 < q102) = true -> [IntKind.wrap IntKind.u8 x.1] = lngD x.1) /\ (decide (x.1 < q102) = false -> (decide (x.1 <
  (256 : Int)) = true -> [(129 : Int), IntKind.wrap IntKind.u8 x.1] = lngD x.1) /\ (decide (x.1 < (256 : Int)) = false -> (decide (x.1 < (65536 : Int)) = true -> q40 <= (8 : Int) /\ [(130 :
  Int), IntKind.wrap IntKind.u8 (Int.fdiv x.1 (q77 ^ q524)), IntKind.wrap IntKind.u8 x.1] = lngD x.1) /\ (decide (x.1 < (65536 : Int)) = false -> q40 <= q423 /\ q40 <= (8 : Int) /\ [(131 :
  Int), IntKind.wrap IntKind.u8 (Int.fdiv x.1 (q77 ^ (16 : Nat))), IntKind.wrap IntKind.u8 (Int.fdiv x.1 (q77 ^ q524)), IntKind.wrap IntKind.u8 x.1] = lngD x.1)))
theorem e115 : t115 = Con.vc c_der_length GL (mkEnv ty [] [] [] [0, 2, 3, 9, 15]) {} Tryz.f115.ntmps Tryz.f115.results.toList (bodyOf Tryz.f115) := by kernel_rfl
theorem k115 : t115 := by
  unfold t115
  delta q1 q36 q40 q102 q77 q524 q423 wiZ
  rintro ⟨n, _⟩ hx hp
  obtain ⟨h0, h1⟩ := hp
  simp only at h0 h1
  try dsimp +instances only [dft_int, dft_sl, dft_str]
  simp only [true_and, and_true, eq_self_iff_true, implies_true, reduceCtorEq, false_implies, true_implies, decide_eq_true_eq, decide_eq_false_iff_not, beq_self_eq_true, Bool.not_eq_true', ne_eq, Decidable.not_not, List.nil_append, List.length_singleton, List.length_cons, List.length_nil, Nat.zero_add, Nat.add_zero, Nat.mul_one, and_self, beq_iff_eq, Bool.not_true, Bool.not_false, Bool.not_eq_false', Bool.cond_false_right, Bool.and_eq_true, imp_self, Bool.not_eq_true, Bool.cond_true_left, Bool.or_eq_true]
  have e8 := (fdiv_pow h0).1
  have e16 := (fdiv_pow h0).2
  rw [e8, e16, wrap_u8m, wrap_u8m, wrap_u8m]
  refine ⟨fun h => ?_, fun h => ⟨fun h2 => ?_, fun h2 => ⟨fun h3 => ⟨by decide, ?_⟩, fun h3 => ⟨by decide, by decide, ?_⟩⟩⟩⟩
  . rw [lngD, if_pos h, show n % 256 = n by omega]
  . rw [lngD, if_neg h, if_pos h2, show n % 256 = n by omega]
  . rw [lngD, if_neg h, if_neg h2, if_pos h3, show n / 256 % 256 = n / 256 by omega]
  . rw [lngD, if_neg h, if_neg h2, if_neg h3, show n / 65536 % 256 = n / 65536 by omega]
theorem h115 : c_der_length.ok Tryz.prog GL 115 := con_ok (H := {}) (mkEnv_ok (gl := GL) (l := []) (q := []) (d := []) _ tyOk (by kernel_rfl) trivial trivial trivial) (by kernel_rfl) (by kernel_rfl) (Eq.mp e115 k115)
def t113 : Prop :=
  ∀ (x : q6), (q159 x) -> lenB x.1 <= q88 -> ∀ (b : Bool), (b = true -> x.1 = []) -> (b = true -> [] = x.1) /\ (b = false -> q74 < q42 /\ (q74 + List.length x.1) * q42 <= q158 /\ q74 +
  List.length x.1 <= q157 /\ [] ++ x.1 = x.1)
theorem e113 : t113 = Con.vc c_slices_Clone_byte_byte GL (mkEnv ty [] [] [] [0, 2, 4]) {} Tryz.f113.ntmps Tryz.f113.results.toList (bodyOf Tryz.f113) := by kernel_rfl
theorem k113 : t113 := by
  unfold t113
  delta q6 q159 q88 q74 q42 q158 q157 wyZ
  rintro ⟨l, _⟩ hx hp
  have hp : l.length ≤ 1000000000 := hp
  try dsimp +instances only [dft_int, dft_sl, dft_str]
  simp only [true_and, and_true, eq_self_iff_true, implies_true, reduceCtorEq, false_implies, true_implies, decide_eq_true_eq, decide_eq_false_iff_not, beq_self_eq_true, Bool.not_eq_true', ne_eq, Decidable.not_not, List.nil_append, List.length_singleton, List.length_cons, List.length_nil, Nat.zero_add, Nat.add_zero, Nat.mul_one, and_self, beq_iff_eq, Bool.not_true, Bool.not_false, Bool.not_eq_false', Bool.cond_false_right, Bool.and_eq_true, imp_self, Bool.not_eq_true, Bool.cond_true_left, Bool.or_eq_true]
  intro b hb
  exact ⟨fun h => (hb h).symm, fun _ => ⟨by decide, by omega, by omega⟩⟩
theorem h113 : c_slices_Clone_byte_byte.ok Tryz.prog GL 113 := con_ok (H := {}) (mkEnv_ok (gl := GL) (l := []) (q := []) (d := []) _ tyOk (by kernel_rfl) trivial trivial trivial) (by kernel_rfl) (by kernel_rfl) (Eq.mp e113 k113)
noncomputable def i159 : CallSem := cutSem <| vcFn (mkEnv ty [] [] [] [0, 1, 4, 6, 16]) {} Tryz.f159.ntmps Tryz.f159.results.toList (bodyOf Tryz.f159)
theorem i159_ok : CallOk Tryz.prog GL 159 i159 := cut_ok <| inl_ok {} (mkEnv_ok (gl := GL) (l := []) (q := []) (d := []) _ tyOk (by kernel_rfl) trivial trivial trivial) (by kernel_rfl) (by kernel_rfl)
def t141 : Prop :=
  ∀ (x : q18), (Kd.wf q188 x.1 /\ True) -> lenF x.1 <= q88 -> ∃ (I : q11), ∃ (μ : q12), ((lnZ x.1) = (lnZ x.1) /\ x.1 = x.1 /\ Value.slice none q74 q74 = Value.slice none q74 q74 /\ x.1 = x.1
  /\ I (q40, q40, ()) ()) /\ ∀ (y : q7) (z : Unit), (q99 y) -> True -> I y z -> (decide (y.1 < (lnZ x.1)) = true -> (q40 <= y.1 /\ y.1 < (lnZ x.1)) /\ (decide (wrZ (q187 y x) < q40) = true ->
  False) /\ (decide (wrZ (q187 y x) < q40) = false -> (lnZ x.1) = (lnZ x.1) /\ x.1 = x.1 /\ Value.slice none q74 q74 = Value.slice none q74 q74 /\ x.1 = x.1 /\ I (wrZ (q101 y), wrZ (q187 y
  x), ()) () /\ μ (wrZ (q101 y), wrZ (q187 y x), ()) () < μ y z)) /\ (decide (y.1 < (lnZ x.1)) = false -> (decide (y.2.1 < q40) = true -> False) /\ (decide (y.2.1 < q40) = false -> (decide
  (q40 < wrZ (q431 y)) = true -> (q40 <= q40 /\ q40 <= (↑q74 : Int)) /\ q40 < wrZ (q431 y) /\ wrZ (q431 y) <= (1000000000 : Int) /\ (q40 <= q40 /\ q40 <= (lnZ (q186 y))) /\ q74 = q74 /\ ∃ (I
  : q19), ∃ (μ : q20), ((lnZ x.1) = (lnZ x.1) /\ x.1 = x.1 /\ Value.bool false = Value.bool false /\ y.1 = y.1 /\ (lnZ x.1) = (lnZ x.1) /\ x.1 = x.1 /\ y.2.1 = y.2.1 /\ Value.slice none q74
  q74 = Value.slice none q74 q74 /\ x.1 = x.1 /\ I (q40, ()) (List.take (q74 - q74) (q186 y), ())) /\ ∀ (y_1 : q1) (z : q6), (q36 y_1) -> (q159 z) -> I y_1 z -> (q185 y_1 x z y I μ) /\
  (decide (y_1.1 < (lnZ x.1)) = false -> z.1 = List.flatten x.1)) /\ (decide (q40 < wrZ (q431 y)) = false -> ∃ (I : q19), ∃ (μ : q20), ((lnZ x.1) = (lnZ x.1) /\ x.1 = x.1 /\ Value.bool false
  = Value.bool false /\ y.1 = y.1 /\ (lnZ x.1) = (lnZ x.1) /\ x.1 = x.1 /\ y.2.1 = y.2.1 /\ Value.slice none q74 q74 = Value.slice none q74 q74 /\ x.1 = x.1 /\ I (q40, ()) ([], ())) /\ ∀ (y_1
  : q1) (z : q6), (q36 y_1) -> (q159 z) -> I y_1 z -> (q185 y_1 x z y I μ) /\ (decide (y_1.1 < (lnZ x.1)) = false -> z.1 = List.flatten x.1))))
theorem e141 : t141 = Con.vc c_slices_Concat_byte_byte GL (mkEnv ty [(159, i159)] [] [] [0, 2, 3, 5, 6, 8, 9, 10, 11, 12, 20, 25, 26, 27, 28]) {} Tryz.f141.ntmps Tryz.f141.results.toList (bodyOf Tryz.f141) := by kernel_rfl
theorem k141 : t141 := by
  unfold t141
  delta q18 q188 q88 q11 q12 lnZ q74 q40 q7 q99 wrZ q187 q101 q431 q186 q19 q20 q1 q6 q36 q159 q185 wiZ q490 q458 q529 q477 wyZ q421 q437 q527 q411 q535 q491 q528 q522
  rintro ⟨xs, _⟩ hx hp
  have hp : xs.flatten.length ≤ 1000000000 := hp
  have hl : xs.length ≤ 9223372036854775807 := hx.1.1
  try dsimp +instances only [dft_int, dft_sl, dft_str]
  simp only [true_and, and_true, eq_self_iff_true, implies_true, reduceCtorEq, false_implies, true_implies, decide_eq_true_eq, decide_eq_false_iff_not, beq_self_eq_true, Bool.not_eq_true', ne_eq, Decidable.not_not, List.nil_append, List.length_singleton, List.length_cons, List.length_nil, Nat.zero_add, Nat.add_zero, Nat.mul_one, and_self, beq_iff_eq, Bool.not_true, Bool.not_false, Bool.not_eq_false', Bool.cond_false_right, Bool.and_eq_true, imp_self, Bool.not_eq_true, Bool.cond_true_left, Bool.or_eq_true]
  refine ⟨fun y z => 0 ≤ y.1 ∧ y.1 ≤ xs.length ∧ y.2.1 = ((xs.take y.1.toNat).flatten.length : Int), fun y z => xs.length - y.1.toNat, ⟨Int.le_refl 0, by simp only; omega, by simp⟩, ?_⟩
  rintro ⟨i, s, _⟩ z hy ⟨h0, h1, h2⟩
  simp only at h0 h1 h2 ⊢
  have hs := flat_bound xs i.toNat
  refine ⟨fun hlt => ?_, fun hge => ⟨fun h => by omega, fun _ => ⟨fun hpos => ?_, fun _ => flat_loop xs hl hp [] rfl⟩⟩⟩
  . have e := take_flat xs i.toNat (by omega)
    have hfl := flat_bound xs (i.toNat + 1)
    rw [e, List.length_append] at hfl
    have hw : IntKind.wrap .i64 (i + 1) = i + 1 := wrapM _ (by omega) (by omega)
    have hw2 : IntKind.wrap .i64 (s + ((xs.getD i.toNat []).length : Int)) = s + ((xs.getD i.toNat []).length : Int) := wrapK _ (by omega) (by omega)
    rw [hw, hw2]
    refine ⟨⟨h0, hlt⟩, fun h => by omega, fun _ => ⟨⟨by omega, by omega, ?_⟩, by omega⟩⟩
    rw [show (i + 1).toNat = i.toNat + 1 by omega, e, List.length_append]
    omega
  . have hw3 : IntKind.wrap .i64 (s - IntKind.wrap .i64 (0 - 0)) = s := by rw [show IntKind.wrap .i64 (0 - 0) = 0 by decide, wrapK _ (by omega) (by omega)]; omega
    rw [hw3] at hpos ⊢
    exact ⟨⟨by decide, by decide⟩, hpos, by omega, ⟨by decide, by omega⟩, flat_loop xs hl hp _ (by simp)⟩
theorem h141 : c_slices_Concat_byte_byte.ok Tryz.prog GL 141 := con_ok (H := {}) (mkEnv_ok (gl := GL) (l := [(159, i159)]) (q := []) (d := []) _ tyOk (by kernel_rfl) ⟨i159_ok, trivial⟩ trivial trivial) (by kernel_rfl) (by kernel_rfl) (Eq.mp e141 k141)
def t107 : Prop :=
  ∀ (x : List Int × Int × List (List Int) × Unit), (wyZ x.1 /\ wiZ x.2.1 /\ Kd.wf q188 x.2.2.1 /\ True) -> lenB x.1 <= (900000000 : Nat) -> True /\ (∀ (y : q4), (q49 y) -> y.1 = isTagD x.2.1
  -> ((!y.1) = true -> ([], q77) = PutD x.1 x.2.1 (List.flatten x.2.2.1)) /\ ((!y.1) = false -> ∃ (I : Int × Int × Int × Unit -> List Int × Unit -> Prop), ∃ (μ : Int × Int × Int × Unit ->
  List Int × Unit -> Nat), ((lnZ x.2.2.1) = (lnZ x.2.2.1) /\ x.2.2.1 = x.2.2.1 /\ Value.bool false = Value.bool false /\ x.1 = x.1 /\ x.2.1 = x.2.1 /\ x.2.2.1 = x.2.2.1 /\ I (q40, q40, q40,
  ()) ([], ())) /\ ∀ (y : Int × Int × Int × Unit) (z : q6), (wiZ y.1 /\ wiZ y.2.1 /\ wiZ y.2.2.1 /\ True) -> (q159 z) -> I y z -> (decide (y.1 < (lnZ x.2.2.1)) = true -> (q40 <= y.1 /\ y.1 <
  (lnZ x.2.2.1)) /\ (decide (wrZ ((16777215 : Int) - y.2.1) < (q189 x y)) = true -> ([], (3 : Int)) = PutD x.1 x.2.1 (List.flatten x.2.2.1)) /\ (decide (wrZ ((16777215 : Int) - y.2.1) < (q189
  x y)) = false -> (lnZ x.2.2.1) = (lnZ x.2.2.1) /\ x.2.2.1 = x.2.2.1 /\ Value.bool false = Value.bool false /\ x.1 = x.1 /\ x.2.1 = x.2.1 /\ x.2.2.1 = x.2.2.1 /\ I (wrZ (y.1 + q75), wrZ
  (y.2.1 + (q189 x y)), y.2.2.1, ()) (z.1, ()) /\ μ (wrZ (y.1 + q75), wrZ (y.2.1 + (q189 x y)), y.2.2.1, ()) (z.1, ()) < μ y z)) /\ (decide (y.1 < (lnZ x.2.2.1)) = false -> (q40 <= y.2.1 /\
  y.2.1 <= (16777215 : Int)) /\ (∀ (y_1 : q6), (q159 y_1) -> y_1.1 = lngD y.2.1 -> lenF [x.1, [IntKind.wrap IntKind.u8 x.2.1], y_1.1] <= q88 /\ (∀ (y : q6), (q159 y) -> y.1 = List.flatten
  [x.1, [IntKind.wrap IntKind.u8 x.2.1], y_1.1] -> lenF x.2.2.1 <= q88 /\ (∀ (y_2 : q6), (q159 y_2) -> y_2.1 = List.flatten x.2.2.1 -> lenF [y.1, y_2.1] <= q88 /\ (∀ (y_3 : q6), (q159 y_3) ->
  y_3.1 = List.flatten [y.1, y_2.1] -> (y_3.1, q40) = PutD x.1 x.2.1 (List.flatten x.2.2.1)) /\ True) /\ True) /\ True) /\ True))) /\ True
theorem e107 : t107 = Con.vc c_der_Put GL (mkEnv ty [(140, conSem c_der_isTag), (115, conSem c_der_length), (141, conSem c_slices_Concat_byte_byte)] [] [] [0, 1, 2, 6, 7, 8, 10, 11, 14, 15, 16, 17, 18, 25]) {} Tryz.f107.ntmps Tryz.f107.results.toList (bodyOf Tryz.f107) := by kernel_rfl
theorem k107 : t107 := by
  unfold t107
  delta wyZ wiZ q188 q4 q49 q77 lnZ q40 q6 q159 wrZ q189 q75 q88 wbZ q490
  rintro ⟨b, t, cs, _⟩ hx hp
  have hp : b.length ≤ 900000000 := hp
  have hcl : cs.length ≤ 9223372036854775807 := hx.2.2.1.1
  try dsimp +instances only [dft_int, dft_sl, dft_str]
  simp only [true_and, and_true, eq_self_iff_true, implies_true, reduceCtorEq, false_implies, true_implies, decide_eq_true_eq, decide_eq_false_iff_not, beq_self_eq_true, Bool.not_eq_true', ne_eq, Decidable.not_not, List.nil_append, List.length_singleton, List.length_cons, List.length_nil, Nat.zero_add, Nat.add_zero, Nat.mul_one, and_self, beq_iff_eq, Bool.not_true, Bool.not_false, Bool.not_eq_false', Bool.cond_false_right, Bool.and_eq_true, imp_self, Bool.not_eq_true, Bool.cond_true_left, Bool.or_eq_true]
  rintro ⟨q, _⟩ _ eq
  simp only at eq ⊢
  subst eq
  refine ⟨fun h => by rw [PutD, if_pos h], fun h => ?_⟩
  refine ⟨fun y _ => 0 ≤ y.1 ∧ y.1 ≤ cs.length ∧ y.2.1 = ((cs.take y.1.toNat).flatten.length : Int) ∧ y.2.1 ≤ 16777215, fun y _ => ((cs.length : Int) - y.1).toNat, ⟨Int.le_refl 0, by simp only; omega, by simp, by decide⟩, ?_⟩
  rintro ⟨i, s, k, _⟩ _ _ _ ⟨h0, h1, h2, h3⟩
  simp only at h0 h1 h2 h3 ⊢
  refine ⟨fun hlt => ?_, fun hge => ?_⟩
  . have e := take_flat cs i.toNat (by omega)
    have hl := flat_bound cs (i.toNat + 1)
    rw [e, List.length_append] at hl
    rw [wrapK (16777215 - s) (by omega) (by omega), wrapM (i + 1) (by omega) (by omega)]
    refine ⟨⟨h0, hlt⟩, fun hb => ?_, fun hb => ?_⟩
    . rw [PutD, if_neg (by rw [h]; decide), if_pos (by omega)]
    . rw [wrapK (s + ((cs.getD i.toNat []).length : Int)) (by omega) (by omega)]
      refine ⟨⟨by omega, by omega, ?_, by omega⟩, by omega⟩
      rw [show (i + 1).toNat = i.toNat + 1 by omega, e, List.length_append]
      omega
  . have hs : s = (cs.flatten.length : Int) := by rw [h2, List.take_of_length_le (by omega)]
    have hll := lng_len (n := s)
    refine ⟨⟨by omega, h3⟩, ?_⟩
    rintro ⟨l, _⟩ _ el
    simp only at el ⊢
    subst el
    refine ⟨by simp only [lenF, List.flatten_cons, List.flatten_nil, List.length_append, List.length_cons, List.length_nil]; omega, ?_⟩
    rintro ⟨o, _⟩ _ eo
    simp only at eo ⊢
    refine ⟨by rw [lenF]; omega, ?_⟩
    rintro ⟨c, _⟩ _ ec
    simp only at ec ⊢
    have hol : o.length = b.length + 1 + (lngD s).length := by rw [eo]; simp; omega
    refine ⟨by simp only [lenF, List.flatten_cons, List.flatten_nil, List.length_append, List.length_nil]; rw [ec]; omega, ?_⟩
    rintro ⟨r, _⟩ _ er
    simp only at er ⊢
    obtain ⟨t0, t1, _⟩ := tag_range h
    rw [PutD, if_neg (by rw [h]; decide), if_neg (by omega), er, eo, ec, wrap8 t t0 t1, putB]
    simp only
    rw [← hs]
    simp
theorem h107 : c_der_Put.ok Tryz.prog GL 107 := con_ok (H := {}) (mkEnv_ok (gl := GL) (l := [(140, conSem c_der_isTag), (115, conSem c_der_length), (141, conSem c_slices_Concat_byte_byte)]) (q := []) (d := []) _ tyOk (by kernel_rfl) ⟨h140.call, h115.call, h141.call, trivial⟩ trivial trivial) (by kernel_rfl) (by kernel_rfl) (Eq.mp e107 k107)
def t112 : Prop :=
  ∀ (x : q6), (q159 x) -> lenB x.1 <= q88 -> (decide ((lnZ x.1) = q40) = true -> (q40, q40, q40, (10 : Int)) = headK x.1) /\ (decide ((lnZ x.1) = q40) = false -> (q67 x) /\ True /\ (∀ (y :
  q4), (q49 y) -> y.1 = isTagD (wrZ (q206 x)) -> ((!y.1) = true -> (q40, q40, q40, (11 : Int)) = headK x.1) /\ ((!y.1) = false -> (decide ((lnZ x.1) = q75) = true -> (q40, q40, q40, (10 :
  Int)) = headK x.1) /\ (decide ((lnZ x.1) = q75) = false -> (q68 x) /\ (decide (wrZ (q205 x) < q40) = true -> (q67 x) /\ (q68 x) /\ (wrZ (q206 x), q77, wrZ (q207 x), q40) = headK x.1) /\
  (decide (wrZ (q205 x) < q40) = false -> (decide (q203 x) = false -> True) /\ (decide (q203 x) = false -> (q201 x) = true /\ True) /\ (decide (q203 x) = false -> (q201 x) = true) /\ (q196 x)
  /\ (q192 x) /\ (q192 x) /\ (q196 x) /\ ((q193 x) = true -> decide (q208 x) = true -> True) /\ ((q193 x) = true -> decide (q208 x) = true -> (q191 x) = true /\ (q40 <= q77 /\ q77 < (lnZ
  x.1)) /\ True) /\ (q190 x) /\ (q190 x) /\ ((q197 x) = false -> (q193 x) = true /\ (decide (q208 x) = true -> (q191 x) = true) /\ True) /\ ((q197 x) = false -> (q432 x) = true) /\ ((q194 x)
  = true -> (q40, q40, q40, q73) = headK x.1) /\ ((q194 x) = false -> (decide (q202 x) = true -> (q40, q40, q40, (10 : Int)) = headK x.1) /\ (decide (q202 x) = false -> (q40 <= q77 /\ q77 <=
  wrZ (q204 x) /\ wrZ (q204 x) <= (lnZ x.1)) /\ ∃ (I : q11), ∃ (μ : q12), ((q199 x) = (q199 x) /\ List.drop q76 (q200 x) = List.drop q76 (q200 x) /\ Value.bool false = Value.bool false /\
  Value.bool false = Value.bool false /\ Value.bool false = Value.bool false /\ wrZ (q205 x) = wrZ (q205 x) /\ Value.bool false = Value.bool false /\ Value.bool false = Value.bool false /\
  Value.bool false = Value.bool false /\ q40 = q40 /\ q40 = q40 /\ q40 = q40 /\ x.1 = x.1 /\ I (q40, q40, ()) ()) /\ ∀ (y : q7) (z : Unit), (q99 y) -> True -> I y z -> (decide (q198 y x) =
  true -> (q40 <= y.1 /\ y.1 < (q199 x)) /\ q40 <= (8 : Int) /\ (q199 x) = (q199 x) /\ List.drop q76 (q200 x) = List.drop q76 (q200 x) /\ Value.bool false = Value.bool false /\ Value.bool
  false = Value.bool false /\ Value.bool false = Value.bool false /\ wrZ (q205 x) = wrZ (q205 x) /\ Value.bool false = Value.bool false /\ Value.bool false = Value.bool false /\ Value.bool
  false = Value.bool false /\ q40 = q40 /\ q40 = q40 /\ q40 = q40 /\ x.1 = x.1 /\ I (wrZ (q101 y), wrZ (q195 y x), ()) () /\ μ (wrZ (q101 y), wrZ (q195 y x), ()) () < μ y z) /\ (decide (q198
  y x) = false -> (decide (y.2.1 < q102) = true -> (q40, q40, q40, q73) = headK x.1) /\ (decide (y.2.1 < q102) = false -> (q67 x) /\ (wrZ (q206 x), wrZ (q204 x), y.2.1, q40) = headK
  x.1)))))))) /\ True)
theorem e112 : t112 = Con.vc c_der_head GL (mkEnv ty [(140, conSem c_der_isTag)] [] [] [0, 2, 3, 4, 5, 6, 8, 9, 13, 20, 29, 40, 58, 67, 68, 69, 70, 80]) {} Tryz.f112.ntmps Tryz.f112.results.toList (bodyOf Tryz.f112) := by kernel_rfl
theorem k112 : t112 := by
  unfold t112
  delta q6 q159 q88 lnZ q40 q67 q4 q49 wrZ q206 q75 q68 q205 q77 q207 q203 q201 q196 q192 q193 q208 q191 q190 q197 q432 q194 q73 q202 q204 q11 q12 q199 q76 q200 q7 q99 q198 q101 q195 q102 wyZ q421 wbZ q437 q477 q458 q496 q527 q537 q493 q492 q445 q440 q494 q529 q565 q495 q536 wiZ q524 q522
  rintro ⟨b, _⟩ hx hp
  have hp : b.length ≤ 1000000000 := hp
  have hb : Bys b := sl_bys hx.1
  try dsimp +instances only [dft_int, dft_sl, dft_str]
  simp only [true_and, and_true, eq_self_iff_true, implies_true, reduceCtorEq, false_implies, true_implies, decide_eq_true_eq, decide_eq_false_iff_not, beq_self_eq_true, Bool.not_eq_true', ne_eq, Decidable.not_not, List.nil_append, List.length_singleton, List.length_cons, List.length_nil, Nat.zero_add, Nat.add_zero, Nat.mul_one, and_self, beq_iff_eq, Bool.not_true, Bool.not_false, Bool.not_eq_false', Bool.cond_false_right, Bool.and_eq_true, imp_self, Bool.not_eq_true, Bool.cond_true_left, Bool.or_eq_true]
  have b0 := bys_get hb 0
  have b1 := bys_get hb 1
  rw [wrapK (b.getD 0 0) (by omega) (by omega), wrapK (b.getD 1 0) (by omega) (by omega), wrapK (b.getD 1 0 - 128) (by omega) (by omega), wrapK (2 + (b.getD 1 0 - 128)) (by omega) (by omega)]
  have hnil : b = [] ↔ (b.length : Int) = 0 := ⟨fun h => by rw [h]; rfl, fun h => List.eq_nil_of_length_eq_zero (by omega)⟩
  unfold headK
  refine ⟨fun h => by rw [if_pos (hnil.2 h)], fun h => ⟨⟨by decide, by omega⟩, ?_⟩⟩
  rw [if_neg (fun e => h (hnil.1 e))]
  rintro ⟨q, _⟩ _ eq
  simp only at eq ⊢
  subst eq
  refine ⟨fun h1 => by rw [if_pos h1], fun h1 => ?_⟩
  rw [if_neg (by rw [h1]; decide)]
  refine ⟨fun h2 => by rw [if_pos (by omega)], fun h2 => ⟨⟨by decide, by omega⟩, fun h3 => ⟨⟨by decide, by omega⟩, ⟨by decide, by omega⟩, ?_⟩, fun h3 => ?_⟩⟩
  . rw [if_neg (by omega), if_pos (by omega)]
  rw [if_neg (by omega), if_neg (by omega)]
  refine ⟨fun g1 g2 => ⟨⟨g1, g2⟩, by decide, by omega⟩, fun g1 g2 => ⟨g1, g2⟩, fun g1 g2 => ⟨g1, g2⟩, fun g1 => ⟨g1, fun g2 => ⟨g1, g2⟩⟩, fun h4 => by rw [if_pos (by omega)], fun h4 => ?_⟩
  have h4' : ¬ (b.getD 1 0 = 128 ∨ 131 < b.getD 1 0 ∨ (2 < b.length ∧ b.getD 2 0 = 0)) := by
    simp only [Bool.or_eq_false_iff, Bool.and_eq_false_iff, decide_eq_false_iff_not] at h4
    omega
  rw [if_neg h4']
  refine ⟨fun h5 => by rw [if_pos h5], fun h5 => ⟨⟨by decide, by omega, by omega⟩, ?_⟩⟩
  rw [if_neg h5]
  have hsl : (b.take (2 + (b.getD 1 0 - 128)).toNat).drop 2 = (b.drop 2).take (b.getD 1 0 - 128).toNat := by
    rw [List.drop_take]
    congr 1
    omega
  rw [hsl]
  have hbl : Bys ((b.drop 2).take (b.getD 1 0 - 128).toNat) := bys_take (bys_drop hb 2) _
  have hll : ((b.drop 2).take (b.getD 1 0 - 128).toNat).length ≤ 3 := by rw [List.length_take]; omega
  generalize (b.drop 2).take (b.getD 1 0 - 128).toNat = l at hbl hll
  refine ⟨fun y _ => 0 ≤ y.1 ∧ y.1 ≤ l.length ∧ y.2.1 = numB (l.take y.1.toNat), fun y _ => ((l.length : Int) - y.1).toNat, ⟨Int.le_refl 0, by simp only; omega, rfl⟩, ?_⟩
  rintro ⟨i, n, _⟩ _ _ ⟨i0, i1, en⟩
  simp only at i0 i1 en ⊢
  refine ⟨fun hlt => ⟨⟨i0, hlt⟩, by decide, ?_⟩, fun hge => ?_⟩
  . have hnb := num_bound hbl (j := i.toNat) (by omega)
    rw [← en] at hnb
    rw [wrapK (i + 1) (by omega) (by omega), or8 (bys_get hbl _) hnb]
    refine ⟨⟨by omega, by omega, ?_⟩, by omega⟩
    rw [show (i + 1).toNat = i.toNat + 1 by omega, take_snoc l _ (by omega), num_snoc, en]
  . rw [List.take_of_length_le (by omega)] at en
    rw [en]
    exact ⟨fun h6 => by rw [if_pos h6], fun h6 => ⟨⟨by decide, by omega⟩, by rw [if_neg h6]⟩⟩
theorem h112 : c_der_head.ok Tryz.prog GL 112 := con_ok (H := {}) (mkEnv_ok (gl := GL) (l := [(140, conSem c_der_isTag)]) (q := []) (d := []) _ tyOk (by kernel_rfl) ⟨h140.call, trivial⟩ trivial trivial) (by kernel_rfl) (by kernel_rfl) (Eq.mp e112 k112)
def t78 : Prop :=
  ∀ (x : q6), (q159 x) -> lenB x.1 <= q88 -> q76 <= q72 /\ lenB x.1 <= q88 /\ (∀ (y : q21), (q210 y) -> (y.1, y.2.1, y.2.2.1, y.2.2.2.1) = headK x.1 -> (decide (q433 y) = true -> True) /\
  (decide (q433 y) = true -> (decide (q433 y) == true) = true /\ True) /\ (decide (q433 y) = true -> True) /\ (q209 y) /\ (decide (q433 y) = true -> True) /\ (q209 y) /\ (decide (q433 y) =
  true -> (decide (q433 y) == true) = true) /\ ((bif decide (q433 y) then decide (wrZ ((lnZ x.1) - y.2.1) < y.2.2.1) else false) = true -> (decide ((10 : Int) ≠ q40) = true -> ((q40, []),
  q40, (10 : Int)) = takeD x.1) /\ (decide ((10 : Int) ≠ q40) = false -> (q40 <= y.2.1 /\ y.2.1 <= wrZ (y.2.1 + y.2.2.1) /\ wrZ (y.2.1 + y.2.2.1) <= (lnZ x.1)) /\ lenB (List.drop (Int.toNat
  y.2.1) (List.take (Int.toNat (wrZ (y.2.1 + y.2.2.1))) x.1)) <= q88 /\ (∀ (y_1 : q6), (q159 y_1) -> y_1.1 = List.drop (Int.toNat y.2.1) (List.take (Int.toNat (wrZ (y.2.1 + y.2.2.1))) x.1) ->
  ((y.1, y_1.1), wrZ (y.2.1 + y.2.2.1), q40) = takeD x.1) /\ True)) /\ ((bif decide (q433 y) then decide (wrZ ((lnZ x.1) - y.2.1) < y.2.2.1) else false) = false -> (decide (y.2.2.2.1 ≠ q40) =
  true -> ((q40, []), q40, y.2.2.2.1) = takeD x.1) /\ (decide (y.2.2.2.1 ≠ q40) = false -> (q40 <= y.2.1 /\ y.2.1 <= wrZ (y.2.1 + y.2.2.1) /\ wrZ (y.2.1 + y.2.2.1) <= (lnZ x.1)) /\ lenB
  (List.drop (Int.toNat y.2.1) (List.take (Int.toNat (wrZ (y.2.1 + y.2.2.1))) x.1)) <= q88 /\ (∀ (y_1 : q6), (q159 y_1) -> y_1.1 = List.drop (Int.toNat y.2.1) (List.take (Int.toNat (wrZ
  (y.2.1 + y.2.2.1))) x.1) -> ((y.1, y_1.1), wrZ (y.2.1 + y.2.2.1), q40) = takeD x.1) /\ True))) /\ True
theorem e78 : t78 = Con.vc c_der_Take GL (mkEnv ty [(112, conSem c_der_head), (113, conSem c_slices_Clone_byte_byte)] [] [] [0, 2, 3, 4, 5, 6, 7, 8, 25, 27]) {} Tryz.f78.ntmps Tryz.f78.results.toList (bodyOf Tryz.f78) := by kernel_rfl
theorem k78 : t78 := by
  unfold t78
  delta q6 q159 q88 q76 q72 q21 q210 q433 q209 wrZ lnZ q40 wyZ wiZ q529
  rintro ⟨b, _⟩ hx hp
  have hp : b.length ≤ 1000000000 := hp
  have hb : Bys b := sl_bys hx.1
  try dsimp +instances only [dft_int, dft_sl, dft_str]
  simp only [true_and, and_true, eq_self_iff_true, implies_true, reduceCtorEq, false_implies, true_implies, decide_eq_true_eq, decide_eq_false_iff_not, beq_self_eq_true, Bool.not_eq_true', ne_eq, Decidable.not_not, List.nil_append, List.length_singleton, List.length_cons, List.length_nil, Nat.zero_add, Nat.add_zero, Nat.mul_one, and_self, beq_iff_eq, Bool.not_true, Bool.not_false, Bool.not_eq_false', Bool.cond_false_right, Bool.and_eq_true, imp_self, Bool.not_eq_true, Bool.cond_true_left, Bool.or_eq_true]
  refine ⟨by decide, hp, ?_⟩
  rintro ⟨t, f, n, e, _⟩ _ eh
  simp only at eh ⊢
  have k1 : (headK b).1 = t := by rw [← eh]
  have k2 : (headK b).2.1 = f := by rw [← eh]
  have k3 : (headK b).2.2.1 = n := by rw [← eh]
  have k4 : (headK b).2.2.2 = e := by rw [← eh]
  have hT : takeD b = if e ≠ 0 then ((0, []), 0, e) else if (b.length : Int) - f < n then ((0, []), 0, 10) else ((t, (b.drop f.toNat).take n.toNat), f + n, 0) := by rw [takeD, k1, k2, k3, k4]
  have hok : e = 0 → 2 ≤ f ∧ f ≤ 5 ∧ f ≤ b.length ∧ 0 ≤ n ∧ n ≤ 16777215 := fun h => by
    have := head_ok hb (by rw [k4]; exact h)
    rw [k2, k3] at this
    exact ⟨this.1, this.2.1, this.2.2.1, this.2.2.2.1, this.2.2.2.2.1⟩
  refine ⟨fun h => ⟨fun _ => ?_, fun h10 => by cases h10⟩, fun h => ⟨fun he => by rw [hT, if_pos he], fun he => ?_⟩⟩
  . obtain ⟨h1, h2⟩ := h
    have := hok h1
    rw [wrapK _ (by omega) (by omega)] at h2
    rw [hT, if_neg (by omega), if_pos h2]
  . have hk := hok he
    simp only [Bool.and_eq_false_iff, decide_eq_false_iff_not] at h
    have h := h.resolve_left (fun h => h he)
    rw [wrapK _ (by omega) (by omega)] at h
    rw [wrapK (f + n) (by omega) (by omega)]
    refine ⟨⟨by omega, by omega, by omega⟩, by rw [lenB, List.length_drop, List.length_take]; omega, ?_⟩
    rintro ⟨c, _⟩ _ ec
    simp only at ec ⊢
    rw [hT, if_neg (by omega), if_neg h, ec, List.drop_take, show (f + n).toNat - f.toNat = n.toNat by omega]
theorem h78 : c_der_Take.ok Tryz.prog GL 78 := con_ok (H := {}) (mkEnv_ok (gl := GL) (l := [(112, conSem c_der_head), (113, conSem c_slices_Clone_byte_byte)]) (q := []) (d := []) _ tyOk (by kernel_rfl) ⟨h112.call, h113.call, trivial⟩ trivial trivial) (by kernel_rfl) (by kernel_rfl) (Eq.mp e78 k78)
def t40 : Prop :=
  ∀ (x : q6), (q159 x) -> lenB x.1 <= q88 -> q76 <= q72 /\ lenB x.1 <= q88 /\ (∀ (y : q22), (q212 y) -> (y.1, y.2.1, y.2.2.1) = takeD x.1 -> q76 <= q72 /\ (decide (q213 y) = true -> True) /\
  (decide (q213 y) = true -> True) /\ (decide (q213 y) = true -> (q434 y) = true /\ True) /\ (q211 y) /\ (decide (q213 y) = true -> (q434 y) = true) /\ ((bif decide (q213 y) then decide
  (y.2.1 < (lnZ x.1)) else false) = true -> ((q40, []), (13 : Int)) = oneD x.1) /\ ((bif decide (q213 y) then decide (y.2.1 < (lnZ x.1)) else false) = false -> ((y.1.1, y.1.2), y.2.2.1) =
  oneD x.1)) /\ True
theorem e40 : t40 = Con.vc c_der_One GL (mkEnv ty [(78, conSem c_der_Take)] [] [] [0, 2, 3, 4, 5, 6, 20]) {} Tryz.f40.ntmps Tryz.f40.results.toList (bodyOf Tryz.f40) := by kernel_rfl
theorem k40 : t40 := by
  unfold t40
  delta q6 q159 q88 q76 q72 q22 q212 q213 q434 q211 lnZ q40 wyZ q438 wiZ q421 q529 q541
  rintro ⟨b, _⟩ hx hp
  have hp : b.length ≤ 1000000000 := hp
  try dsimp +instances only [dft_int, dft_sl, dft_str]
  simp only [true_and, and_true, eq_self_iff_true, implies_true, reduceCtorEq, false_implies, true_implies, decide_eq_true_eq, decide_eq_false_iff_not, beq_self_eq_true, Bool.not_eq_true', ne_eq, Decidable.not_not, List.nil_append, List.length_singleton, List.length_cons, List.length_nil, Nat.zero_add, Nat.add_zero, Nat.mul_one, and_self, beq_iff_eq, Bool.not_true, Bool.not_false, Bool.not_eq_false', Bool.cond_false_right, Bool.and_eq_true, imp_self, Bool.not_eq_true, Bool.cond_true_left, Bool.or_eq_true]
  refine ⟨by decide, hp, ?_⟩
  rintro ⟨⟨t, c⟩, n, e, _⟩ _ eT
  simp only at eT ⊢
  refine ⟨by decide, fun h => ?_, fun h => ?_⟩
  . rw [oneD, ← eT, if_pos h]
  . rw [oneD, ← eT, if_neg (fun hh => by simp only [Bool.and_eq_false_iff, decide_eq_false_iff_not] at h; exact h.elim (fun h => h hh.1) (fun h => h hh.2))]
theorem h40 : c_der_One.ok Tryz.prog GL 40 := con_ok (H := {}) (mkEnv_ok (gl := GL) (l := [(78, conSem c_der_Take)]) (q := []) (d := []) _ tyOk (by kernel_rfl) ⟨h78.call, trivial⟩ trivial trivial) (by kernel_rfl) (by kernel_rfl) (Eq.mp e40 k40)
def t80 : Prop :=
  ∀ (x : q1), (q36 x) -> True -> (decide (q559 x) = false -> True) /\ (q160 x) /\ (q161 x) /\ ((bif decide (q559 x) then true else decide ((16777215 : Int) < x.1)) = true -> q40 = sizeD x.1)
  /\ ((bif decide (q559 x) then true else decide ((16777215 : Int) < x.1)) = false -> (q40 <= x.1 /\ x.1 <= (16777215 : Int)) /\ (∀ (y : q6), (q159 y) -> y.1 = lngD x.1 -> wrZ (q75 + (lnZ
  y.1)) = sizeD x.1) /\ True)
theorem e80 : t80 = Con.vc c_der_Size GL (mkEnv ty [(115, conSem c_der_length)] [] [] [0, 2, 8]) {} Tryz.f80.ntmps Tryz.f80.results.toList (bodyOf Tryz.f80) := by kernel_rfl
theorem k80 : t80 := by
  unfold t80
  delta q1 q36 q559 q160 q161 q40 q6 q159 wrZ q75 lnZ wiZ q574 q558 wyZ
  rintro ⟨n, _⟩ hx hp
  try dsimp +instances only [dft_int, dft_sl, dft_str]
  simp only [true_and, and_true, eq_self_iff_true, implies_true, reduceCtorEq, false_implies, true_implies, decide_eq_true_eq, decide_eq_false_iff_not, beq_self_eq_true, Bool.not_eq_true', ne_eq, Decidable.not_not, List.nil_append, List.length_singleton, List.length_cons, List.length_nil, Nat.zero_add, Nat.add_zero, Nat.mul_one, and_self, beq_iff_eq, Bool.not_true, Bool.not_false, Bool.not_eq_false', Bool.cond_false_right, Bool.and_eq_true, imp_self, Bool.not_eq_true, Bool.cond_true_left, Bool.or_eq_true]
  refine ⟨fun h => by rw [sizeD, if_pos h], fun h => ?_⟩
  simp only [Bool.or_eq_false_iff, decide_eq_false_iff_not] at h
  refine ⟨⟨by omega, by omega⟩, ?_⟩
  rintro ⟨l, _⟩ _ el
  simp only at el ⊢
  have := lng_len (n := n)
  rw [el, wrapK _ (by omega) (by omega), size_of (by omega) (by omega)]
theorem h80 : c_der_Size.ok Tryz.prog GL 80 := con_ok (H := {}) (mkEnv_ok (gl := GL) (l := [(115, conSem c_der_length)]) (q := []) (d := []) _ tyOk (by kernel_rfl) ⟨h115.call, trivial⟩ trivial trivial) (by kernel_rfl) (by kernel_rfl) (Eq.mp e80 k80)
noncomputable def i114 : CallSem → CallSem := vcSeq (mkEnv ty [(78, conSem c_der_Take)] [] [] [0, 1, 3, 4, 5, 6, 10, 27]) {} Tryz.f114.ntmps Tryz.f114.results.toList (bodyOf Tryz.f114)
theorem i114_ok : SeqOk Tryz.prog GL 114 i114 := seq_ok {} (mkEnv_ok (gl := GL) (l := [(78, conSem c_der_Take)]) (q := []) (d := []) _ tyOk (by kernel_rfl) ⟨h78.call, trivial⟩ trivial trivial) (by kernel_rfl) (by kernel_rfl)
noncomputable def i79 : CallSem := vcFn (mkEnv ty [(113, conSem c_slices_Clone_byte_byte)] [] [] [0, 2, 3]) {} Tryz.f79.ntmps Tryz.f79.results.toList (bodyOf Tryz.f79)
theorem i79_ok : CallOk Tryz.prog GL 79 i79 := inl_ok {} (mkEnv_ok (gl := GL) (l := [(113, conSem c_slices_Clone_byte_byte)]) (q := []) (d := []) _ tyOk (by kernel_rfl) ⟨h113.call, trivial⟩ trivial trivial) (by kernel_rfl) (by kernel_rfl)
def t41 : Prop :=
  ∀ (x : q6), (q159 x) -> lenB x.1 <= q88 -> q42 <= q72 /\ q42 <= q72 /\ lenB x.1 <= q88 /\ (∀ (y : q6), (q159 y) -> y.1 = x.1 -> q42 <= q72 /\ ∃ (I : Int × Unit -> Unit × (Int × Unit) × q217
  × List q218 × Unit -> Prop), ∃ (μ : Int × Unit -> Unit × (Int × Unit) × q217 × List q218 × Unit -> Nat), (q40 = q40 /\ q40 = q40 /\ Value.slice none q74 q74 = Value.slice none q74 q74 /\
  x.1 = x.1 /\ I (q40, ()) ((), (q40, ()), (y.1, ()), [], ())) /\ ∀ (y : q1) (z : Unit × (Int × Unit) × q217 × List q218 × Unit), (q36 y) -> True /\ (wiZ z.2.1.1 /\ True) /\ (wyZ z.2.2.1.1 /\
  True) /\ (Kd.wf q216 z.2.2.2.1 /\ True) -> I y z -> (decide (y.1 < (lnZ z.2.2.1.1)) = true -> (q40 <= y.1 /\ y.1 <= (lnZ z.2.2.1.1)) /\ lenB (List.drop (q411 y) z.2.2.1.1) <= q88 /\ (∀ (y_1
  : q22), (q212 y_1) -> (y_1.1, y_1.2.1, y_1.2.2.1) = takeD (List.drop (q411 y) z.2.2.1.1) -> q76 <= q72 /\ (decide (y_1.2.2.1 ≠ q40) = false -> True) /\ (decide (y_1.2.2.1 ≠ q40) = false ->
  True) /\ (decide (y_1.2.2.1 ≠ q40) = false -> True) /\ (decide (y_1.2.2.1 ≠ q40) = false -> (decide (y_1.2.2.1 ≠ q40) == false) = true /\ (decide (y_1.2.2.1 ≠ q40) == false) = true /\
  (decide (y_1.2.2.1 ≠ q40) == false) = true /\ q76 <= q72 /\ q74 < q76 /\ (List.length z.2.2.2.1 + List.length [(y_1.1.1, y_1.1.2)]) * (32 : Nat) <= q158 /\ List.length z.2.2.2.1 +
  List.length [(y_1.1.1, y_1.1.2)] <= q157 /\ (((True /\ (∀ (y_2 : q1), (q36 y_2) -> y_2.1 = sizeD (lnZ y_1.1.2) -> (((((q40 = q40 /\ q40 = q40 /\ Value.slice none q74 q74 = Value.slice none
  q74 q74 /\ x.1 = x.1 /\ I (wrZ (y.1 + y_1.2.1), ()) ((), (wrZ (q436 y y_2 y_1), ()), (z.2.2.1.1, ()), z.2.2.2.1 ++ [(y_1.1.1, y_1.1.2)], ()) /\ μ (wrZ (y.1 + y_1.2.1), ()) ((), (wrZ (q436 y
  y_2 y_1), ()), (z.2.2.1.1, ()), z.2.2.2.1 ++ [(y_1.1.1, y_1.1.2)], ()) < μ y z) /\ True) /\ True) /\ True) /\ True) /\ (((((q40 = q40 /\ q40 = q40 /\ Value.slice none q74 q74 = Value.slice
  none q74 q74 /\ x.1 = x.1 /\ I (wrZ (y.1 + y_1.2.1), ()) ((), (wrZ (q436 y y_2 y_1), ()), (z.2.2.1.1, ()), z.2.2.2.1 ++ [(y_1.1.1, y_1.1.2)], ()) /\ μ (wrZ (y.1 + y_1.2.1), ()) ((), (wrZ
  (q436 y y_2 y_1), ()), (z.2.2.1.1, ()), z.2.2.2.1 ++ [(y_1.1.1, y_1.1.2)], ()) < μ y z) /\ True) /\ True) /\ True) /\ ((((q40 = q40 /\ q40 = q40 /\ Value.slice none q74 q74 = Value.slice
  none q74 q74 /\ x.1 = x.1 /\ I (wrZ (y.1 + y_1.2.1), ()) ((), (wrZ (q436 y y_2 y_1), ()), (z.2.2.1.1, ()), z.2.2.2.1 ++ [(y_1.1.1, y_1.1.2)], ()) /\ μ (wrZ (y.1 + y_1.2.1), ()) ((), (wrZ
  (q436 y y_2 y_1), ()), (z.2.2.1.1, ()), z.2.2.2.1 ++ [(y_1.1.1, y_1.1.2)], ()) < μ y z) /\ True) /\ True) /\ True) /\ True) /\ True) /\ True) /\ ((True /\ (∀ (y_2 : q1), (wiZ y_2.1 /\ True)
  -> y_2.1 = sizeD (lnZ y_1.1.2) -> ((((q421 = q421 /\ q421 = q421 /\ Value.slice none q437 q437 = Value.slice none q437 q437 /\ x.1 = x.1 /\ I (wrZ (y.1 + y_1.2.1), ()) ((), (wrZ (q436 y y_2
  y_1), ()), (z.2.2.1.1, ()), z.2.2.2.1 ++ [(y_1.1.1, y_1.1.2)], ()) /\ μ (wrZ (y.1 + y_1.2.1), ()) ((), (wrZ (q436 y y_2 y_1), ()), (z.2.2.1.1, ()), z.2.2.2.1 ++ [(y_1.1.1, y_1.1.2)], ()) <
  μ y z) /\ True) /\ True) /\ True) /\ ((((q421 = q421 /\ q421 = q421 /\ Value.slice none q437 q437 = Value.slice none q437 q437 /\ x.1 = x.1 /\ I (wrZ (y.1 + y_1.2.1), ()) ((), (wrZ (q436 y
  y_2 y_1), ()), (z.2.2.1.1, ()), z.2.2.2.1 ++ [(y_1.1.1, y_1.1.2)], ()) /\ μ (wrZ (y.1 + y_1.2.1), ()) ((), (wrZ (q436 y y_2 y_1), ()), (z.2.2.1.1, ()), z.2.2.2.1 ++ [(y_1.1.1, y_1.1.2)],
  ()) < μ y z) /\ True) /\ True) /\ True) /\ True) /\ True) /\ (q435 y_1 x I y z μ) /\ True) /\ True) /\ (q214 y_1 x I y z μ) /\ True) /\ ((q214 y_1 x I y z μ) /\ (((q435 y_1 x I y z μ) /\
  True) /\ True) /\ True) /\ True) /\ (decide (y_1.2.2.1 ≠ q40) = !false -> (decide (z.2.1.1 = (lnZ x.1)) = true -> (z.2.2.2.1, z.2.1.1, q40) = allD x.1) /\ (q215 z x))) /\ True) /\ (decide
  (y.1 < (lnZ z.2.2.1.1)) = false -> (decide (z.2.1.1 = (lnZ x.1)) = true -> (z.2.2.2.1, z.2.1.1, q40) = allD x.1) /\ (q215 z x))) /\ True
theorem e41 : t41 = Con.vc c_der_All GL (mkEnv ty [(79, i79), (78, conSem c_der_Take), (80, conSem c_der_Size)] [(114, i114)] [] [0, 2, 3, 4, 5, 6, 7, 8, 11, 13, 14, 15, 33]) {} Tryz.f41.ntmps Tryz.f41.results.toList (bodyOf Tryz.f41) := by kernel_rfl
theorem k41 : t41 := by
  unfold t41
  delta q6 q159 q88 q42 q72 q217 q218 q40 q74 q1 q36 wiZ wyZ q216 lnZ q411 q22 q212 q76 q158 q157 wrZ q436 q421 q437 q435 q214 q215 q438 q529 q540 q497 q541
  rintro ⟨b, _⟩ hx hp
  have hp : b.length ≤ 1000000000 := hp
  have hb : Bys b := sl_bys hx.1
  try dsimp +instances only [dft_int, dft_sl, dft_str]
  simp only [true_and, and_true, eq_self_iff_true, implies_true, reduceCtorEq, false_implies, true_implies, decide_eq_true_eq, decide_eq_false_iff_not, beq_self_eq_true, Bool.not_eq_true', ne_eq, Decidable.not_not, List.nil_append, List.length_singleton, List.length_cons, List.length_nil, Nat.zero_add, Nat.add_zero, Nat.mul_one, and_self, beq_iff_eq, Bool.not_true, Bool.not_false, Bool.not_eq_false', Bool.cond_false_right, Bool.and_eq_true, imp_self, Bool.not_eq_true, Bool.cond_true_left, Bool.or_eq_true]
  refine ⟨by decide, by decide, hp, ?_⟩
  rintro ⟨b1, _⟩ _ eb
  have eb : b1 = b := eb
  subst eb
  refine ⟨by decide, fun y z => z.2.2.1.1 = b1 ∧ 0 ≤ y.1 ∧ y.1 ≤ b1.length ∧ z.2.1.1 = y.1 ∧ (z.2.2.2.1 : List EltT).length ≤ y.1 ∧ ∃ (k : Nat) (pre : List (Int × EltT)), (b1.length : Int) - y.1 ≤ k ∧ rowD b1 = (pre ++ (rowR b1 k y.1).1, (rowR b1 k y.1).2) ∧ z.2.2.2.1 = pre.map (·.2), fun y _ => ((b1.length : Int) - y.1).toNat, ⟨rfl, Int.le_refl 0, by simp only; omega, rfl, by simp, b1.length, [], by simp only; omega, rfl, rfl⟩, ?_⟩
  rintro ⟨i, _⟩ ⟨_, ⟨en, _⟩, ⟨own, _⟩, out, _⟩ _ _ ⟨eo, i0, i1, ee, hl, k, pre, hk, hr, eout⟩
  simp only at eo i0 i1 ee hl hk hr eout ⊢
  subst eo ee
  refine ⟨fun hlt => ⟨⟨i0, by omega⟩, by rw [lenB, List.length_drop]; omega, ?_⟩, fun hge => ⟨fun h => ?_, fun h => absurd (by omega) h⟩⟩
  . rintro ⟨x, n, e, _⟩ _ eT
    simp only at eT ⊢
    obtain ⟨m, rfl⟩ : ∃ m, k = m + 1 := ⟨k - 1, by omega⟩
    have hbd : Bys (own.drop en.toNat) := bys_drop hb _
    refine ⟨by decide, fun he => ?_, fun he => ⟨fun h => by omega, fun h => ⟨⟨i0, i1⟩, by rw [lenB, List.length_drop]; omega, ?_⟩⟩⟩
    . subst he
      have ok : (takeD (own.drop en.toNat)).2.2 = 0 := by rw [← eT]
      have h1 := take_inv hbd ok
      have h2 := take_ok hbd ok
      rw [row_step own m en hlt ok] at hr
      rw [← eT] at h1 h2 hr
      simp only at h1 h2 hr
      rw [List.length_drop] at h2
      have hpl := put_len x
      have hll := lng_len (n := (x.2.length : Int))
      refine ⟨by trivial, by trivial, by trivial, by decide, by decide, by omega, by omega, ?_⟩
      rintro ⟨z, _⟩ _ ez
      simp only at ez ⊢
      rw [size_of (by omega) (by omega)] at ez
      rw [wrapK (en + n) (by omega) (by omega), wrapK (en + z) (by omega) (by omega), wrapK (en + z + (x.2.length : Int)) (by omega) (by omega)]
      refine ⟨⟨by trivial, by omega, by omega, by omega, by rw [List.length_append, List.length_singleton]; omega, m, pre ++ [(en, x)], by omega, ?_, ?_⟩, by omega⟩
      . rw [hr]; simp
      . rw [eout]; simp
    . rintro ⟨x2, n2, e2, _⟩ _ eT2
      simp only at eT2 ⊢
      have he2 : e2 = e := by
        have := eT.trans eT2.symm
        simp only [Prod.mk.injEq] at this
        exact this.2.2.symm
      have bad : (takeD (own.drop en.toNat)).2.2 ≠ 0 := by rw [← eT]; exact he
      rw [row_bad own m en hlt bad, ← eT] at hr
      refine ⟨by decide, ?_⟩
      rw [allD, hr, he2]
      simp only
      rw [if_pos he]
  . rw [row_end own k en hge] at hr
    rw [allD, hr]
    simp only
    rw [if_neg (by simp), List.append_nil, eout]
theorem h41 : c_der_All.ok Tryz.prog GL 41 := con_ok (H := {}) (mkEnv_ok (gl := GL) (l := [(79, i79), (78, conSem c_der_Take), (80, conSem c_der_Size)]) (q := [(114, i114)]) (d := []) _ tyOk (by kernel_rfl) ⟨i79_ok, h78.call, h80.call, trivial⟩ ⟨i114_ok, trivial⟩ trivial) (by kernel_rfl) (by kernel_rfl) (Eq.mp e41 k41)
end Go.Proofs.YtlpbhgcndebkcaaGreatDoor
end
section
namespace Go.Proofs.YtlpbhgcndebkcaaGreatDoor
open Go Go.Vc Go.Pl Go.Proofs
def c_r01_IsTag : Con := { args := [.dat I64], res := [.dat .bool], pre := fun _ => True, post := fun x y => y.1 = isTagD x.1 }
def c_r01_Length : Con := { args := [.dat I64], res := [.own 5 U8], pre := fun x => 0 ≤ x.1 ∧ x.1 ≤ 16777215, post := fun x y => y.1 = lngD x.1 }
def c_r01_Bytes : Con := { args := [.dat ET], res := [.own 5 U8], pre := fun x => lenB x.1.2 ≤ 16777215 ∧ 0 ≤ x.1.1 ∧ x.1.1 ≤ 255, post := fun x y => y.1 = putB x.1 }
def c_r01_Take : Con := { args := [.dat BY], res := [.dat ET, .dat I64, .dat I64], pre := fun x => lenB x.1 ≤ 1000000000, post := fun x y => (y.1, y.2.1, y.2.2.1) = takeD x.1 }
def c_r01_One : Con := { args := [.dat BY], res := [.dat ET, .dat I64], pre := fun x => lenB x.1 ≤ 1000000000, post := fun x y => (y.1, y.2.1) = oneD x.1 }
def c_r01_Row : Con := { args := [.dat BY], res := [.own 82 ET, .own 3 I64, .dat I64, .dat I64], pre := fun x => lenB x.1 ≤ 1000000000, post := fun x y => y.1 = (rowD x.1).1.map (·.2) ∧ y.2.1 = (rowD x.1).1.map (·.1) ∧ (y.2.2.1, y.2.2.2.1) = (rowD x.1).2 }
def c_r01_All : Con := { args := [.dat BY], res := [.own 82 ET, .dat I64, .dat I64], pre := fun x => lenB x.1 ≤ 1000000000, post := fun x y => (y.1, y.2.1, y.2.2.1) = allD x.1 }
end Go.Proofs.YtlpbhgcndebkcaaGreatDoor
end
section
namespace Go.Proofs.YtlpbhgcndebkcaaGreatDoor
open Go Go.Vc Go.Pl Go.Proofs
set_option linter.unusedVariables false
set_option linter.unusedSimpArgs false
set_option maxRecDepth 20000
abbrev q23 := (Int × Int × List Int)
abbrev q219 (p0 : q1) := ((bif decide (q421 <= p0.1) then decide (p0.1 < (256 : Int)) else false) == true)
abbrev q220 (p0 : q1) := (bif decide (q421 <= p0.1) then decide (p0.1 < (256 : Int)) else false)
abbrev q539 (p0 : q21) (p1 : q6) := (List.drop (Int.toNat p0.1) (List.take (Int.toNat (wrZ (p0.1 + p0.2.1))) p1.1))
abbrev q547 := (9223372036854775807 : Nat)
abbrev q538 (p0 : q6) (p1 : q21) := (((wrZ (List.getD p0.1 (0 : Nat) q565), [] ++ List.drop (Int.toNat p1.1) (List.take (Int.toNat (wrZ (p1.1 + p1.2.1))) p0.1)), wrZ (p1.1 + p1.2.1), q574)
  = takeD p0.1 /\ True)
abbrev q498 (p0 : q21) (p1 : q6) := (q540 < q527 /\ (q540 + List.length (q539 p0 p1)) * q527 <= q535 /\ q540 + List.length (q539 p0 p1) <= q547 /\ (q538 p1 p0) /\ True)
abbrev q221 (p0 : q21) (p1 : q6) := (((q421 <= p0.1 /\ p0.1 <= wrZ (p0.1 + p0.2.1) /\ wrZ (p0.1 + p0.2.1) <= (lnZ p1.1)) /\ (q498 p0 p1) /\ True) /\ True)
abbrev q222 (p0 : q21) (p1 : q6) := ((q498 p0 p1) /\ True)
abbrev q223 (p0 : q21) (p1 : q6) := (q437 < q527 /\ (q540 + List.length (q539 p0 p1)) * q527 <= q535 /\ q437 + List.length (q539 p0 p1) <= q491 /\ ((q538 p1 p0) /\ True) /\ True)
abbrev q224 (p0 : q6) := (bif decide (wrZ (q496 p0) = (128 : Int)) then true else decide ((131 : Int) < wrZ (q496 p0)))
abbrev q225 (p0 : q6) := (bif decide (q440 p0) then decide (List.getD p0.1 (2 : Nat) q477 = q421) else false)
abbrev q226 (p0 : q6) := (decide (q440 p0) = true -> (decide (q440 p0) == true) = true /\ True)
abbrev q227 (p0 : q21) (p1 : q6) := (q421 <= p0.1 /\ p0.1 <= wrZ (p0.1 + p0.2.1) /\ wrZ (p0.1 + p0.2.1) <= (lnZ p1.1))
abbrev q228 (p0 : q6) := (wrZ (q496 p0) = (128 : Int))
abbrev q229 := (Kd.dft q522)
abbrev q230 := (Kd.sl q541)
abbrev q439 := (16777215 : Nat)
def t123 : Prop :=
  ∀ (x : q1), (q36 x) -> True -> (decide (q39 x) = true -> True) /\ (decide (q39 x) = true -> (decide (q39 x) == true) = true /\ True) /\ (decide (q39 x) = true -> (decide (q39 x) == true) =
  true) /\ ((q220 x) = true -> True) /\ ((q220 x) = true -> (q219 x) = true /\ (32 : Int) ≠ q40 /\ True) /\ ((q220 x) = true -> (q219 x) = true /\ True) /\ ((q220 x) = true -> (q219 x) =
  true) /\ (bif bif decide (q39 x) then decide (x.1 < (256 : Int)) else false then decide (Int.tmod x.1 (32 : Int) ≠ (31 : Int)) else false) = isTagD x.1
theorem e123 : t123 = Con.vc c_r01_IsTag GL (mkEnv ty [] [] [] [0, 2]) {} Tryz.f123.ntmps Tryz.f123.results.toList (bodyOf Tryz.f123) := by kernel_rfl
theorem k123 : t123 := by
  unfold t123
  delta q1 q36 q39 q220 q219 q40 wiZ q421
  rintro ⟨t, _⟩ hx hp
  try dsimp +instances only [dft_int, dft_sl, dft_str]
  simp only [true_and, and_true, eq_self_iff_true, implies_true, reduceCtorEq, false_implies, true_implies, decide_eq_true_eq, decide_eq_false_iff_not, beq_self_eq_true, Bool.not_eq_true', ne_eq, Decidable.not_not, List.nil_append, List.length_singleton, List.length_cons, List.length_nil, Nat.zero_add, Nat.add_zero, Nat.mul_one, and_self, beq_iff_eq, Bool.not_true, Bool.not_false, Bool.not_eq_false', Bool.cond_false_right, Bool.and_eq_true, imp_self, Bool.not_eq_true, Bool.cond_true_left, Bool.or_eq_true]
  exact ⟨fun h => ⟨h, by decide⟩, isTag_ref t⟩
theorem h123 : c_r01_IsTag.ok Tryz.prog GL 123 := con_ok (H := {}) (mkEnv_ok (gl := GL) (l := []) (q := []) (d := []) _ tyOk (by kernel_rfl) trivial trivial trivial) (by kernel_rfl) (by kernel_rfl) (Eq.mp e123 k123)
def t144 : Prop :=
  ∀ (x : q1), (q36 x) -> q40 <= x.1 /\ x.1 <= (16777215 : Int) -> (decide (x.1 < q102) = true -> [IntKind.wrap IntKind.u8 x.1] = lngD x.1) /\ (decide (x.1 < q102) = false -> ∃ (I : q19), ∃ (μ
  : q20), (Value.bool false = Value.bool false /\ Value.slice none q74 q74 = Value.slice none q74 q74 /\ I (x.1, ()) ([], ())) /\ ∀ (y : q1) (z : q6), (q36 y) -> (q159 z) -> I y z -> (decide
  (q421 < y.1) = true -> (256 : Int) ≠ q40 /\ q74 < q42 /\ (List.length [IntKind.wrap IntKind.u8 (Int.tmod y.1 (256 : Int))] + List.length z.1) * q42 <= q158 /\ List.length [IntKind.wrap
  IntKind.u8 (Int.tmod y.1 (256 : Int))] + List.length z.1 <= q157 /\ (256 : Int) ≠ q40 /\ Value.bool false = Value.bool false /\ Value.slice none q74 q74 = Value.slice none q74 q74 /\ I (wrZ
  (Int.tdiv y.1 (256 : Int)), ()) ([IntKind.wrap IntKind.u8 (Int.tmod y.1 (256 : Int))] ++ z.1, ()) /\ μ (wrZ (Int.tdiv y.1 (256 : Int)), ()) ([IntKind.wrap IntKind.u8 (Int.tmod y.1 (256 :
  Int))] ++ z.1, ()) < μ y z) /\ (decide (q421 < y.1) = false -> q74 < q42 /\ (List.length [IntKind.wrap IntKind.u8 (wrZ (q102 + (lnZ z.1)))] + List.length z.1) * q42 <= q158 /\ List.length
  [IntKind.wrap IntKind.u8 (wrZ (q102 + (lnZ z.1)))] + List.length z.1 <= q157 /\ [IntKind.wrap IntKind.u8 (wrZ (q102 + (lnZ z.1)))] ++ z.1 = lngD x.1))
theorem e144 : t144 = Con.vc c_r01_Length GL (mkEnv ty [] [] [] [0, 2, 3, 5, 10]) {} Tryz.f144.ntmps Tryz.f144.results.toList (bodyOf Tryz.f144) := by kernel_rfl
theorem k144 : t144 := by
  unfold t144
  delta q1 q36 q40 q102 q19 q20 q74 q6 q159 q421 q42 q158 q157 wrZ lnZ wiZ wyZ
  rintro ⟨n, _⟩ hx hp
  obtain ⟨h0, h1⟩ := hp
  simp only at h0 h1
  try dsimp +instances only [dft_int, dft_sl, dft_str]
  simp only [true_and, and_true, eq_self_iff_true, implies_true, reduceCtorEq, false_implies, true_implies, decide_eq_true_eq, decide_eq_false_iff_not, beq_self_eq_true, Bool.not_eq_true', ne_eq, Decidable.not_not, List.nil_append, List.length_singleton, List.length_cons, List.length_nil, Nat.zero_add, Nat.add_zero, Nat.mul_one, and_self, beq_iff_eq, Bool.not_true, Bool.not_false, Bool.not_eq_false', Bool.cond_false_right, Bool.and_eq_true, imp_self, Bool.not_eq_true, Bool.cond_true_left, Bool.or_eq_true]
  refine ⟨fun h => by rw [lngD, if_pos h, wrap_u8m, show n % 256 = n by omega], fun h => ?_⟩
  refine ⟨fun y z => (y.1 = n ∧ z.1 = []) ∨ (y.1 = n / 256 ∧ z.1 = [n % 256]) ∨ (0 < n / 256 ∧ y.1 = n / 65536 ∧ z.1 = [n / 256 % 256, n % 256]) ∨ (0 < n / 65536 ∧ y.1 = 0 ∧ z.1 = [n / 65536, n / 256 % 256, n % 256]), fun y _ => y.1.toNat, .inl ⟨rfl, rfl⟩, ?_⟩
  rintro ⟨m, _⟩ ⟨z, _⟩ _ _ hI
  simp only at hI ⊢
  refine ⟨fun hlt => ?_, fun hge => ?_⟩
  . have hm : IntKind.wrap .i64 (m.tdiv 256) = m / 256 := by
      rw [Int.tdiv_eq_ediv_of_nonneg (by omega), wrapK _ (by omega) (by omega)]
    have hm2 : IntKind.wrap .u8 (m.tmod 256) = m % 256 := by
      rw [Int.tmod_eq_emod_of_nonneg (by omega), wrap_u8m]
      omega
    rw [hm, hm2]
    rcases hI with ⟨rfl, rfl⟩ | ⟨rfl, rfl⟩ | ⟨g, rfl, rfl⟩ | ⟨g, rfl, rfl⟩
    . exact ⟨by decide, by decide, by simp, by simp, by decide, .inr (.inl ⟨rfl, rfl⟩), by omega⟩
    . exact ⟨by decide, by decide, by simp, by simp, by decide, .inr (.inr (.inl ⟨hlt, by omega, rfl⟩)), by omega⟩
    . refine ⟨by decide, by decide, by simp, by simp, by decide, .inr (.inr (.inr ⟨hlt, by omega, ?_⟩)), by omega⟩
      rw [show n / 65536 % 256 = n / 65536 by omega]
      rfl
    . omega
  . rcases hI with ⟨rfl, rfl⟩ | ⟨rfl, rfl⟩ | ⟨g, rfl, rfl⟩ | ⟨g, rfl, rfl⟩
    . omega
    . refine ⟨by decide, by simp, by simp, ?_⟩
      rw [lngD, if_neg h, if_pos (by omega), show n % 256 = n by omega]
      rfl
    . refine ⟨by decide, by simp, by simp, ?_⟩
      rw [lngD, if_neg h, if_neg (by omega), if_pos (by omega), show n / 256 % 256 = n / 256 by omega]
      rfl
    . refine ⟨by decide, by simp, by simp, ?_⟩
      rw [lngD, if_neg h, if_neg (by omega), if_neg (by omega)]
      rfl
theorem h144 : c_r01_Length.ok Tryz.prog GL 144 := con_ok (H := {}) (mkEnv_ok (gl := GL) (l := []) (q := []) (d := []) _ tyOk (by kernel_rfl) trivial trivial trivial) (by kernel_rfl) (by kernel_rfl) (Eq.mp e144 k144)
def t111 : Prop :=
  ∀ (x : q15), (Kd.wf q438 x.1 /\ True) -> lenB x.1.2 <= q439 /\ q40 <= x.1.1 /\ x.1.1 <= (255 : Int) -> List.length [SV.dat q148 x.1.1, SV.dat (Kd.sl (Kd.int IntKind.u8)) x.1.2] <= q72 /\
  q74 < q42 /\ (q74 + List.length [IntKind.wrap IntKind.u8 x.1.1]) * q42 <= q158 /\ q74 + List.length [IntKind.wrap IntKind.u8 x.1.1] <= q157 /\ (q40 <= (lnZ x.1.2) /\ (lnZ x.1.2) <=
  (16777215 : Int)) /\ (∀ (y : q6), (q159 y) -> y.1 = lngD (lnZ x.1.2) -> q74 < q42 /\ (List.length ([] ++ [IntKind.wrap IntKind.u8 x.1.1]) + List.length y.1) * q42 <= q158 /\ List.length ([]
  ++ [IntKind.wrap IntKind.u8 x.1.1]) + List.length y.1 <= q157 /\ q74 < q42 /\ (List.length ([] ++ [IntKind.wrap IntKind.u8 x.1.1] ++ y.1) + List.length x.1.2) * q42 <= q158 /\ List.length
  ([] ++ [IntKind.wrap IntKind.u8 x.1.1] ++ y.1) + List.length x.1.2 <= q157 /\ [] ++ [IntKind.wrap IntKind.u8 x.1.1] ++ y.1 ++ x.1.2 = putB x.1) /\ True
theorem e111 : t111 = Con.vc c_r01_Bytes GL (mkEnv ty [(144, conSem c_r01_Length)] [] [] [0, 1, 2, 3]) {} Tryz.f111.ntmps Tryz.f111.results.toList (bodyOf Tryz.f111) := by kernel_rfl
theorem k111 : t111 := by
  unfold t111
  delta q15 q438 q439 q40 q148 q72 q74 q42 q158 q157 lnZ q6 q159 q541 wyZ
  rintro ⟨⟨t, c⟩, _⟩ hx hp
  obtain ⟨h1, h2, h3⟩ := hp
  simp only [lenB] at h1 h2 h3
  try dsimp +instances only [dft_int, dft_sl, dft_str]
  simp only [true_and, and_true, eq_self_iff_true, implies_true, reduceCtorEq, false_implies, true_implies, decide_eq_true_eq, decide_eq_false_iff_not, beq_self_eq_true, Bool.not_eq_true', ne_eq, Decidable.not_not, List.nil_append, List.length_singleton, List.length_cons, List.length_nil, Nat.zero_add, Nat.add_zero, Nat.mul_one, and_self, beq_iff_eq, Bool.not_true, Bool.not_false, Bool.not_eq_false', Bool.cond_false_right, Bool.and_eq_true, imp_self, Bool.not_eq_true, Bool.cond_true_left, Bool.or_eq_true]
  have hll := lng_len (n := (c.length : Int))
  refine ⟨by decide, by decide, by decide, by decide, ⟨by omega, by omega⟩, ?_⟩
  rintro ⟨l, _⟩ _ el
  simp only at el ⊢
  subst el
  refine ⟨by decide, by omega, by omega, by decide, by simp only [List.length_append, List.length_singleton]; omega, by simp only [List.length_append, List.length_singleton]; omega, ?_⟩
  rw [wrap8 t h2 h3, putB]
  simp
theorem h111 : c_r01_Bytes.ok Tryz.prog GL 111 := con_ok (H := {}) (mkEnv_ok (gl := GL) (l := [(144, conSem c_r01_Length)]) (q := []) (d := []) _ tyOk (by kernel_rfl) ⟨h144.call, trivial⟩ trivial trivial) (by kernel_rfl) (by kernel_rfl) (Eq.mp e111 k111)
def t88 : Prop :=
  ∀ (x : q6), (q159 x) -> lenB x.1 <= q88 -> q76 <= q72 /\ (decide ((lnZ x.1) = q40) = true -> ((q40, []), q40, (10 : Int)) = takeD x.1) /\ (decide ((lnZ x.1) = q40) = false -> (q67 x) /\
  True /\ (∀ (y : q4), (q49 y) -> y.1 = isTagD (wrZ (q206 x)) -> ((!y.1) = true -> ((q40, []), q40, (11 : Int)) = takeD x.1) /\ ((!y.1) = false -> (decide ((lnZ x.1) = q75) = true -> ((q40,
  []), q40, (10 : Int)) = takeD x.1) /\ (decide ((lnZ x.1) = q75) = false -> (q68 x) /\ (decide (q228 x) = false -> True) /\ (decide (q228 x) = false -> (decide (q228 x) == false) = true /\
  True) /\ (decide (q228 x) = false -> (decide (q228 x) == false) = true) /\ ((q224 x) = true -> ((q40, []), q40, q73) = takeD x.1) /\ ((q224 x) = false -> ∃ (J : Int × Int × Int × Int × Unit
  -> (Int × Unit) × Unit -> Prop), ((decide (q102 < wrZ (q207 x)) = true -> (decide (q208 x) = true -> True) /\ (decide (q208 x) = true -> (decide (q440 x) == true) = true /\ (q40 <= q77 /\
  q77 < (lnZ x.1)) /\ True) /\ (q226 x) /\ (q226 x) /\ (decide (q208 x) = true -> (decide (q440 x) == true) = true) /\ ((q225 x) = true -> ((q40, []), q40, q73) = takeD x.1) /\ ((q225 x) =
  false -> (decide (q202 x) = true -> ((q40, []), q40, (10 : Int)) = takeD x.1) /\ (decide (q202 x) = false -> ∃ (I : Int × Int × Unit -> Unit × Unit -> Prop), ∃ (μ : Int × Int × Unit -> Unit
  × Unit -> Nat), (Value.bool false = Value.bool false /\ Value.bool false = Value.bool false /\ wrZ (q205 x) = wrZ (q205 x) /\ Value.bool true = Value.bool true /\ Value.bool false =
  Value.bool false /\ q77 = q77 /\ Value.bool false = Value.bool false /\ Value.bool false = Value.bool false /\ Value.bool false = Value.bool false /\ q40 = q40 /\ q40 = q40 /\ x.1 = x.1 /\
  q40 = q40 /\ Value.slice none q74 q74 = Value.slice none q74 q74 /\ I (q40, q40, ()) ((), ())) /\ ∀ (y : q7) (z : Unit × Unit), (q99 y) -> True /\ True -> I y z -> (decide (y.1 < wrZ (q205
  x)) = true -> (q40 <= wrZ (q77 + y.1) /\ wrZ (q77 + y.1) < (lnZ x.1)) /\ Value.bool false = Value.bool false /\ Value.bool false = Value.bool false /\ wrZ (q205 x) = wrZ (q205 x) /\
  Value.bool true = Value.bool true /\ Value.bool false = Value.bool false /\ q77 = q77 /\ Value.bool false = Value.bool false /\ Value.bool false = Value.bool false /\ Value.bool false =
  Value.bool false /\ q40 = q40 /\ q40 = q40 /\ x.1 = x.1 /\ q40 = q40 /\ Value.slice none q74 q74 = Value.slice none q74 q74 /\ I (wrZ (q101 y), wrZ (wrZ ((256 : Int) * y.2.1) + wrZ
  (List.getD x.1 (Int.toNat (wrZ (q77 + y.1))) q229)), ()) ((), ()) /\ μ (wrZ (q101 y), wrZ (wrZ ((256 : Int) * y.2.1) + wrZ (List.getD x.1 (Int.toNat (wrZ (q77 + y.1))) q229)), ()) ((), ())
  < μ y z) /\ (decide (y.1 < wrZ (q205 x)) = false -> (decide (y.2.1 < q102) = true -> ((q40, []), q40, q73) = takeD x.1) /\ (decide (y.2.1 < q102) = false -> Value.bool false = Value.bool
  false /\ Value.bool false = Value.bool false /\ Value.bool false = Value.bool false /\ Value.bool false = Value.bool false /\ x.1 = x.1 /\ Value.slice none q74 q74 = Value.slice none q74
  q74 /\ J (wrZ (q204 x), y.2.1, q40, q40, ()) ((q40, ()), ())))))) /\ (decide (q102 < wrZ (q207 x)) = false -> Value.bool false = Value.bool false /\ Value.bool false = Value.bool false /\
  Value.bool false = Value.bool false /\ Value.bool false = Value.bool false /\ x.1 = x.1 /\ Value.slice none q74 q74 = Value.slice none q74 q74 /\ J (q77, wrZ (q207 x), q40, q40, ()) ((q40,
  ()), ()))) /\ ∀ (u : q21) (z : (Int × Unit) × Unit), (q210 u) -> (wiZ z.1.1 /\ True) /\ True -> J u z -> (decide (wrZ ((lnZ x.1) - u.1) < u.2.1) = true -> ((q40, []), q40, (10 : Int)) =
  takeD x.1) /\ (decide (wrZ ((lnZ x.1) - u.1) < u.2.1) = false -> (q67 x) /\ ((q221 u x) /\ ((q227 u x) /\ (q222 u x) /\ True) /\ True) /\ ((q221 u x) /\ ((q227 u x) /\ (q222 u x) /\ (q223 u
  x) /\ True) /\ True) /\ ((q227 u x) /\ ((q222 u x) /\ True) /\ ((q222 u x) /\ (q223 u x) /\ True) /\ True) /\ True))))) /\ True)
theorem e88 : t88 = Con.vc c_r01_Take GL (mkEnvO ty [(123, conSem c_r01_IsTag)] [] [] [0, 2, 3, 4, 5, 6, 7, 8, 11, 18, 22, 33, 36, 47, 53, 57, 70, 79] [1000000]) {joins := [25]} Tryz.f88.ntmps Tryz.f88.results.toList (bodyOf Tryz.f88) := by kernel_rfl
theorem k88 : t88 := by
  unfold t88
  delta q6 q159 q88 q76 q72 lnZ q40 q67 q4 q49 wrZ q206 q75 q68 q228 q224 q73 q102 q207 q208 q440 q77 q226 q225 q202 q205 q74 q7 q99 q101 q229 q204 q21 q210 wiZ q221 q227 q222 q223 wyZ q421 wbZ q437 q477 q458 q496 q527 q445 q565 q522 q537 q498 q540 q539 q535 q491 q538 q547 q574
  rintro ⟨b, _⟩ hx hp
  have hp : b.length ≤ 1000000000 := hp
  have hb : Bys b := sl_bys hx.1
  try dsimp +instances only [dft_int, dft_sl, dft_str]
  simp only [true_and, and_true, eq_self_iff_true, implies_true, reduceCtorEq, false_implies, true_implies, decide_eq_true_eq, decide_eq_false_iff_not, beq_self_eq_true, Bool.not_eq_true', ne_eq, Decidable.not_not, List.nil_append, List.length_singleton, List.length_cons, List.length_nil, Nat.zero_add, Nat.add_zero, Nat.mul_one, and_self, beq_iff_eq, Bool.not_true, Bool.not_false, Bool.not_eq_false', Bool.cond_false_right, Bool.and_eq_true, imp_self, Bool.not_eq_true, Bool.cond_true_left, Bool.or_eq_true]
  have b0 := bys_get hb 0
  have b1 := bys_get hb 1
  rw [wrapK (b.getD 0 0) (by omega) (by omega), wrapK (b.getD 1 0) (by omega) (by omega), wrapK (b.getD 1 0 - 128) (by omega) (by omega), wrapK (2 + (b.getD 1 0 - 128)) (by omega) (by omega)]
  have hnil : b = [] ↔ (b.length : Int) = 0 := ⟨fun h => by rw [h]; rfl, fun h => List.eq_nil_of_length_eq_zero (by omega)⟩
  refine ⟨by decide, fun h => (take_bad (by rw [headK, if_pos (hnil.2 h)]) (by decide)).symm, fun h => ⟨⟨by decide, by omega⟩, ?_⟩⟩
  have c1 : ¬ b = [] := fun e => h (hnil.1 e)
  rintro ⟨q, _⟩ _ eq
  simp only at eq ⊢
  subst eq
  refine ⟨fun h1 => (take_bad (by rw [headK, if_neg c1, if_pos h1]) (by decide)).symm, fun h1 => ?_⟩
  have c2 : ¬ isTagD (b.getD 0 0) = false := by rw [h1]; decide
  refine ⟨fun h2 => (take_bad (by rw [headK, if_neg c1, if_neg c2, if_pos (by omega)]) (by decide)).symm, fun h2 => ⟨⟨by decide, by omega⟩, fun h3 => ?_, fun h3 => ?_⟩⟩
  . refine (take_bad ?_ (by decide)).symm
    rw [headK, if_neg c1, if_neg c2, if_neg (by omega), if_neg (by omega), if_pos (by omega)]
  have c3 : ¬ b.length = 1 := by omega
  have h3' : ¬ b.getD 1 0 = 128 ∧ ¬ 131 < b.getD 1 0 := by
    simp only [Bool.or_eq_false_iff, decide_eq_false_iff_not] at h3
    exact h3
  refine ⟨fun u _ => headK b = (b.getD 0 0, u.1, u.2.1, 0), ⟨fun h4 => ⟨fun g => ⟨g, by decide, g⟩, fun g => ?_, fun g => ⟨fun h5 => ?_, fun h5 => ?_⟩⟩, fun h4 => ?_⟩, ?_⟩
  . refine (take_bad ?_ (by decide)).symm
    rw [headK, if_neg c1, if_neg c2, if_neg c3, if_neg (by omega), if_pos (.inr (.inr ⟨by omega, g.2⟩))]
  . have g2 : ¬ (b.getD 1 0 = 128 ∨ 131 < b.getD 1 0 ∨ (2 < b.length ∧ b.getD 2 0 = 0)) := by
      simp only [Bool.and_eq_false_iff, decide_eq_false_iff_not] at g
      omega
    refine (take_bad ?_ (by decide)).symm
    rw [headK, if_neg c1, if_neg c2, if_neg c3, if_neg (by omega), if_neg g2, if_pos h5]
  . have g2 : ¬ (b.getD 1 0 = 128 ∨ 131 < b.getD 1 0 ∨ (2 < b.length ∧ b.getD 2 0 = 0)) := by
      simp only [Bool.and_eq_false_iff, decide_eq_false_iff_not] at g
      omega
    have hl : ((b.drop 2).take (b.getD 1 0 - 128).toNat).length = (b.getD 1 0 - 128).toNat := by rw [List.length_take, List.length_drop]; omega
    have hbl : Bys ((b.drop 2).take (b.getD 1 0 - 128).toNat) := bys_take (bys_drop hb 2) _
    refine ⟨fun y _ => 0 ≤ y.1 ∧ y.1 ≤ b.getD 1 0 - 128 ∧ y.2.1 = numB (((b.drop 2).take (b.getD 1 0 - 128).toNat).take y.1.toNat), fun y _ => (b.getD 1 0 - 128 - y.1).toNat, ⟨Int.le_refl 0, by simp only; omega, rfl⟩, ?_⟩
    rintro ⟨i, n, _⟩ _ _ ⟨i0, i1, en⟩
    simp only at i0 i1 en ⊢
    refine ⟨fun hlt => ?_, fun hge => ?_⟩
    . have hnb := num_bound hbl (j := i.toNat) (by omega)
      rw [← en] at hnb
      rw [wrapK (2 + i) (by omega) (by omega)]
      have hg : ((b.drop 2).take (b.getD 1 0 - 128).toNat).getD i.toNat 0 = b.getD (2 + i).toNat 0 := by
        rw [getD_take _ _ _ (by omega), getD_drop, show 2 + i.toNat = (2 + i).toNat by omega]
      have hbi := bys_get hb (2 + i).toNat
      rw [wrapK (i + 1) (by omega) (by omega), wrapK (256 * n) (by omega) (by omega), wrapK (b.getD (2 + i).toNat 0) (by omega) (by omega), wrapK _ (by omega) (by omega)]
      refine ⟨⟨by omega, by omega⟩, ⟨by omega, by omega, ?_⟩, by omega⟩
      rw [show (i + 1).toNat = i.toNat + 1 by omega, take_snoc _ _ (by omega), num_snoc, en, hg]
    . rw [List.take_of_length_le (by omega)] at en
      rw [en]
      refine ⟨fun h6 => (take_bad ?_ (by decide)).symm, fun h6 => ?_⟩
      . rw [headK, if_neg c1, if_neg c2, if_neg c3, if_neg (by omega), if_neg g2, if_neg h5, if_pos h6]
      . rw [headK, if_neg c1, if_neg c2, if_neg c3, if_neg (by omega), if_neg g2, if_neg h5, if_neg h6]
  . rw [headK, if_neg c1, if_neg c2, if_neg c3, if_pos (by omega)]
  . rintro ⟨f, n, j1, j2, _⟩ _ _ _ hK
    simp only at hK ⊢
    have hok := head_ok hb (by rw [hK])
    rw [hK] at hok
    simp only at hok
    rw [take_good hK, wrapK ((b.length : Int) - f) (by omega) (by omega)]
    refine ⟨fun h6 => by rw [if_pos h6], fun h6 => ?_⟩
    rw [if_neg h6, wrapK (f + n) (by omega) (by omega)]
    refine ⟨⟨by decide, by omega⟩, ⟨by omega, by omega, by omega⟩, by decide, by rw [List.length_drop, List.length_take]; omega, by rw [List.length_drop, List.length_take]; omega, ?_⟩
    rw [List.drop_take, show (f + n).toNat - f.toNat = n.toNat by omega]
theorem h88 : c_r01_Take.ok Tryz.prog GL 88 := conO_ok (H := {joins := [25]}) (mkEnvO_ok (gl := GL) (l := [(123, conSem c_r01_IsTag)]) (q := []) (d := []) _ [1000000] tyOk (by kernel_rfl) ⟨h123.call, trivial⟩ trivial trivial) (by kernel_rfl) (by kernel_rfl) (Eq.mp e88 k88)
def t47 : Prop :=
  ∀ (x : q6), (q159 x) -> lenB x.1 <= q88 -> q76 <= q72 /\ lenB x.1 <= q88 /\ (∀ (y : q22), (q212 y) -> (y.1, y.2.1, y.2.2.1) = takeD x.1 -> q76 <= q72 /\ (decide (q213 y) = true -> True) /\
  (decide (q213 y) = true -> True) /\ (decide (q213 y) = true -> (q434 y) = true /\ True) /\ (q211 y) /\ (decide (q213 y) = true -> (q434 y) = true) /\ ((bif decide (q213 y) then decide
  (y.2.1 ≠ (lnZ x.1)) else false) = true -> ((q40, []), (13 : Int)) = oneD x.1) /\ ((bif decide (q213 y) then decide (y.2.1 ≠ (lnZ x.1)) else false) = false -> ((y.1.1, y.1.2), y.2.2.1) =
  oneD x.1)) /\ True
theorem e47 : t47 = Con.vc c_r01_One GL (mkEnv ty [(88, conSem c_r01_Take)] [] [] [0, 2, 3, 4, 5, 6, 20]) {} Tryz.f47.ntmps Tryz.f47.results.toList (bodyOf Tryz.f47) := by kernel_rfl
theorem k47 : t47 := by
  unfold t47
  delta q6 q159 q88 q76 q72 q22 q212 q213 q434 q211 lnZ q40 wyZ q438 wiZ q421 q529 q541
  rintro ⟨b, _⟩ hx hp
  have hp : b.length ≤ 1000000000 := hp
  have hb : Bys b := sl_bys hx.1
  try dsimp +instances only [dft_int, dft_sl, dft_str]
  simp only [true_and, and_true, eq_self_iff_true, implies_true, reduceCtorEq, false_implies, true_implies, decide_eq_true_eq, decide_eq_false_iff_not, beq_self_eq_true, Bool.not_eq_true', ne_eq, Decidable.not_not, List.nil_append, List.length_singleton, List.length_cons, List.length_nil, Nat.zero_add, Nat.add_zero, Nat.mul_one, and_self, beq_iff_eq, Bool.not_true, Bool.not_false, Bool.not_eq_false', Bool.cond_false_right, Bool.and_eq_true, imp_self, Bool.not_eq_true, Bool.cond_true_left, Bool.or_eq_true]
  refine ⟨by decide, hp, ?_⟩
  rintro ⟨⟨t, c⟩, n, e, _⟩ _ eT
  simp only at eT ⊢
  have hok : e = 0 → n ≤ b.length := fun he => by
    have := take_ok hb (by rw [← eT]; exact he)
    rw [← eT] at this
    exact this.2
  refine ⟨by decide, fun h => ?_, fun h => ?_⟩
  . have := hok h.1
    rw [oneD, ← eT, if_pos ⟨h.1, by simp only; omega⟩]
  . rw [oneD, ← eT, if_neg (fun hh => by
      simp only [Bool.and_eq_false_iff, decide_eq_false_iff_not, Decidable.not_not] at h hh
      exact h.elim (fun h => h hh.1) (fun h => by omega))]
theorem h47 : c_r01_One.ok Tryz.prog GL 47 := con_ok (H := {}) (mkEnv_ok (gl := GL) (l := [(88, conSem c_r01_Take)]) (q := []) (d := []) _ tyOk (by kernel_rfl) ⟨h88.call, trivial⟩ trivial trivial) (by kernel_rfl) (by kernel_rfl) (Eq.mp e47 k47)
def t149 : Prop :=
  ∀ (x : q6), (q159 x) -> lenB x.1 <= q88 -> ∃ (I : Int × Int × Int × Unit -> List Int × List q218 × List Int × List q218 × Unit -> Prop), ∃ (μ : Int × Int × Int × Unit -> List Int × List
  q218 × List Int × List q218 × Unit -> Nat), (x.1 = x.1 /\ I (q40, q40, q40, ()) ([], [], [], [], ())) /\ ∀ (y : Int × Int × Int × Unit) (z : List Int × List q218 × List Int × List q218 ×
  Unit), (wiZ y.1 /\ wiZ y.2.1 /\ wiZ y.2.2.1 /\ True) -> (Kd.wf q230 z.1 /\ Kd.wf q216 z.2.1 /\ Kd.wf q230 z.2.2.1 /\ Kd.wf q216 z.2.2.2.1 /\ True) -> I y z -> (decide (y.1 < (lnZ x.1)) =
  true -> (q40 <= y.1 /\ y.1 <= (lnZ x.1)) /\ lenB (List.drop (Int.toNat y.1) x.1) <= q88 /\ (∀ (y_1 : q22), (q212 y_1) -> (y_1.1, y_1.2.1, y_1.2.2.1) = takeD (List.drop (Int.toNat y.1) x.1)
  -> q76 <= q72 /\ (decide (y_1.2.2.1 ≠ q40) = true -> z.2.1 = List.map (fun (x : q23) => x.2) (rowD x.1).1 /\ z.1 = List.map (fun (x : q23) => x.1) (rowD x.1).1 /\ (y.1, y_1.2.2.1) = (rowD
  x.1).2) /\ (decide (y_1.2.2.1 ≠ q40) = false -> q74 < q76 /\ (List.length z.2.1 + List.length [(y_1.1.1, y_1.1.2)]) * (32 : Nat) <= q158 /\ List.length z.2.1 + List.length [(y_1.1.1,
  y_1.1.2)] <= q157 /\ q74 < q42 /\ (List.length z.1 + List.length [y.1]) * q524 <= q158 /\ List.length z.1 + List.length [y.1] <= q157 /\ x.1 = x.1 /\ I (wrZ (y.1 + y_1.2.1), y.2.1, y.2.2.1,
  ()) (z.1 ++ [y.1], z.2.1 ++ [(y_1.1.1, y_1.1.2)], z.2.2.1, z.2.2.2.1, ()) /\ μ (wrZ (y.1 + y_1.2.1), y.2.1, y.2.2.1, ()) (z.1 ++ [y.1], z.2.1 ++ [(y_1.1.1, y_1.1.2)], z.2.2.1, z.2.2.2.1,
  ()) < μ y z)) /\ True) /\ (decide (y.1 < (lnZ x.1)) = false -> z.2.1 = List.map (fun (x : q23) => x.2) (rowD x.1).1 /\ z.1 = List.map (fun (x : q23) => x.1) (rowD x.1).1 /\ (y.1, q40) =
  (rowD x.1).2)
theorem e149 : t149 = Con.vc c_r01_Row GL (mkEnv ty [(88, conSem c_r01_Take)] [] [] [0, 2, 3, 4, 5, 6, 7, 8, 9, 10, 11, 15, 25]) {} Tryz.f149.ntmps Tryz.f149.results.toList (bodyOf Tryz.f149) := by kernel_rfl
theorem k149 : t149 := by
  unfold t149
  delta q6 q159 q88 q218 q40 wiZ q230 q216 lnZ q22 q212 q76 q72 q23 q74 q158 q157 q42 q524 wrZ wyZ q541 q438
  rintro ⟨b, _⟩ hx hp
  have hp : b.length ≤ 1000000000 := hp
  have hb : Bys b := sl_bys hx.1
  try dsimp +instances only [dft_int, dft_sl, dft_str]
  simp only [true_and, and_true, eq_self_iff_true, implies_true, reduceCtorEq, false_implies, true_implies, decide_eq_true_eq, decide_eq_false_iff_not, beq_self_eq_true, Bool.not_eq_true', ne_eq, Decidable.not_not, List.nil_append, List.length_singleton, List.length_cons, List.length_nil, Nat.zero_add, Nat.add_zero, Nat.mul_one, and_self, beq_iff_eq, Bool.not_true, Bool.not_false, Bool.not_eq_false', Bool.cond_false_right, Bool.and_eq_true, imp_self, Bool.not_eq_true, Bool.cond_true_left, Bool.or_eq_true]
  refine ⟨fun y z => 0 ≤ y.1 ∧ y.1 ≤ b.length ∧ (z.1 : List Int).length ≤ y.1 ∧ ∃ (k : Nat) (pre : List (Int × EltT)), (b.length : Int) - y.1 ≤ k ∧ rowD b = (pre ++ (rowR b k y.1).1, (rowR b k y.1).2) ∧ z.2.1 = pre.map (·.2) ∧ z.1 = pre.map (·.1), fun y _ => ((b.length : Int) - y.1).toNat, ⟨Int.le_refl 0, by simp only; omega, by simp, b.length, [], by simp only; omega, rfl, rfl, rfl⟩, ?_⟩
  rintro ⟨i, u1, u2, _⟩ ⟨ps, out, v1, v2, _⟩ _ _ ⟨i0, i1, hl, k, pre, hk, hr, eout, eps⟩
  simp only at i0 i1 hl hk hr eout eps ⊢
  have hlo : out.length = ps.length := by rw [eout, eps, List.length_map, List.length_map]
  refine ⟨fun hlt => ⟨⟨i0, by omega⟩, by rw [lenB, List.length_drop]; omega, ?_⟩, fun hge => ?_⟩
  . rintro ⟨⟨t, c⟩, n, e, _⟩ _ eT
    simp only at eT ⊢
    obtain ⟨m, rfl⟩ : ∃ m, k = m + 1 := ⟨k - 1, by omega⟩
    have hbd : Bys (b.drop i.toNat) := bys_drop hb _
    refine ⟨by decide, fun he => ?_, fun he => ?_⟩
    . have bad : (takeD (b.drop i.toNat)).2.2 ≠ 0 := by rw [← eT]; exact he
      rw [row_bad b m i hlt bad, ← eT] at hr
      rw [hr]
      simp only [List.append_nil]
      exact ⟨eout, eps, by trivial⟩
    . subst he
      have ok : (takeD (b.drop i.toNat)).2.2 = 0 := by rw [← eT]
      have h2 := take_ok hbd ok
      rw [row_step b m i hlt ok] at hr
      rw [← eT] at h2 hr
      simp only at h2 hr
      rw [List.length_drop] at h2
      rw [wrapK (i + n) (by omega) (by omega)]
      refine ⟨by decide, by omega, by omega, by decide, by omega, by omega, ⟨by omega, by omega, by rw [List.length_append, List.length_singleton]; omega, m, pre ++ [(i, (t, c))], by omega, ?_, ?_, ?_⟩, by omega⟩
      . rw [hr]; simp
      . rw [eout]; simp
      . rw [eps]; simp
  . rw [row_end b k i hge] at hr
    rw [hr]
    simp only [List.append_nil]
    exact ⟨eout, eps, by trivial⟩
theorem h149 : c_r01_Row.ok Tryz.prog GL 149 := con_ok (H := {}) (mkEnv_ok (gl := GL) (l := [(88, conSem c_r01_Take)]) (q := []) (d := []) _ tyOk (by kernel_rfl) ⟨h88.call, trivial⟩ trivial trivial) (by kernel_rfl) (by kernel_rfl) (Eq.mp e149 k149)
def t124 : Prop :=
  ∀ (x : q6), (q159 x) -> lenB x.1 <= q88 -> lenB x.1 <= q88 /\ (∀ (y : List q218 × List Int × Int × Int × Unit), (Kd.wf q216 y.1 /\ Kd.wf q230 y.2.1 /\ wiZ y.2.2.1 /\ wiZ y.2.2.2.1 /\ True)
  -> y.1 = List.map (fun (x : q23) => x.2) (rowD x.1).1 /\ y.2.1 = List.map (fun (x : q23) => x.1) (rowD x.1).1 /\ (y.2.2.1, y.2.2.2.1) = (rowD x.1).2 -> (decide (y.2.2.2.1 ≠ q40) = true ->
  ([], y.2.2.1, y.2.2.2.1) = allD x.1) /\ (decide (y.2.2.2.1 ≠ q40) = false -> (y.1, y.2.2.1, q40) = allD x.1)) /\ True
theorem e124 : t124 = Con.vc c_r01_All GL (mkEnv ty [(149, conSem c_r01_Row)] [] [] [0, 2, 3, 4, 5, 7, 8, 17]) {} Tryz.f124.ntmps Tryz.f124.results.toList (bodyOf Tryz.f124) := by kernel_rfl
theorem k124 : t124 := by
  unfold t124
  delta q6 q159 q88 q218 q216 q230 wiZ q23 q40 wyZ q438 q541
  rintro ⟨b, _⟩ hx hp
  have hp : b.length ≤ 1000000000 := hp
  try dsimp +instances only [dft_int, dft_sl, dft_str]
  simp only [true_and, and_true, eq_self_iff_true, implies_true, reduceCtorEq, false_implies, true_implies, decide_eq_true_eq, decide_eq_false_iff_not, beq_self_eq_true, Bool.not_eq_true', ne_eq, Decidable.not_not, List.nil_append, List.length_singleton, List.length_cons, List.length_nil, Nat.zero_add, Nat.add_zero, Nat.mul_one, and_self, beq_iff_eq, Bool.not_true, Bool.not_false, Bool.not_eq_false', Bool.cond_false_right, Bool.and_eq_true, imp_self, Bool.not_eq_true, Bool.cond_true_left, Bool.or_eq_true]
  refine ⟨hp, ?_⟩
  rintro ⟨l, ps, n, e, _⟩ _ ⟨h1, h2, h3⟩
  simp only at h1 h2 h3 ⊢
  refine ⟨fun he => ?_, fun he => ?_⟩
  . rw [allD, ← h3, if_pos he]
  . rw [allD, ← h3, if_neg (fun h => h he), h1]
theorem h124 : c_r01_All.ok Tryz.prog GL 124 := con_ok (H := {}) (mkEnv_ok (gl := GL) (l := [(149, conSem c_r01_Row)]) (q := []) (d := []) _ tyOk (by kernel_rfl) ⟨h149.call, trivial⟩ trivial trivial) (by kernel_rfl) (by kernel_rfl) (Eq.mp e124 k124)
end Go.Proofs.YtlpbhgcndebkcaaGreatDoor
end
section
namespace Go.Proofs.YtlpbhgcndebkcaaGreatDoor
open Go Go.Vc Go.Pl Go.Proofs
def c_oid_May : Con := { args := [.dat (.sl I64)], res := [.dat .bool], pre := fun _ => True, post := fun x y => y.1 = mayO x.1 }
def c_r03_May : Con := { args := [.dat (.sl I64)], res := [.dat .bool], pre := fun _ => True, post := fun x y => y.1 = mayO x.1 }
def c_oid_number : Con := { args := [.own 5 U8, .dat I64], res := [.own 5 U8], pre := fun x => lenI x.1 ≤ 1000 ∧ 0 ≤ x.2.1 ∧ x.2.1 ≤ 2147483647, post := fun x y => y.1 = x.1 ++ numO x.2.1 }
def c_r03_Number : Con := { args := [.dat I64], res := [.own 5 U8], pre := fun x => 0 ≤ x.1 ∧ x.1 ≤ 2147483647, post := fun x y => y.1 = numO x.1 }
def c_oid_Encode : Con := { args := [.dat (.sl I64)], res := [.own 5 U8, .dat I64], pre := fun _ => True, post := fun x y => (y.1, y.2.1) = EncO x.1 }
def c_r03_Encode : Con := { args := [.dat (.sl I64)], res := [.own 5 U8, .dat I64], pre := fun _ => True, post := fun x y => (y.1, y.2.1) = EncO x.1 }
end Go.Proofs.YtlpbhgcndebkcaaGreatDoor
end
section
namespace Go.Proofs.YtlpbhgcndebkcaaGreatDoor
open Go Go.Vc Go.Pl Go.Proofs
set_option linter.unusedVariables false
set_option linter.unusedSimpArgs false
abbrev q443 (p0 : q6) (p1 : q10) := (List.getD p0.1 (Int.toNat p1.1) (Kd.dft q541) < q529)
abbrev q444 := (2147483647 : Int)
abbrev q470 := (Kd.dft q541)
abbrev q231 (p0 : q6) (p1 : q10) := ((bif decide (q443 p0 p1) then true else decide (q444 < List.getD p0.1 (q418 p1) q470)) = true -> false = mayO p0.1)
abbrev q442 (p0 : q6) (p1 : q10) := (decide (List.getD p0.1 (Int.toNat p1.1) (Kd.dft q541) < q529) == false)
abbrev q232 (p0 : q6) (p1 : q10) := (decide (q443 p0 p1) = false -> (q442 p0 p1) = true /\ True)
abbrev q233 (p0 : q6) (p1 : q10) := (decide (q443 p0 p1) = false -> (q442 p0 p1) = true)
abbrev q234 (p0 : q6) (p1 : q10) := (bif decide (q443 p0 p1) then true else decide (q444 < List.getD p0.1 (q418 p1) q470))
abbrev q441 (p0 : q6) := ((lnZ p0.1) < (2 : Int))
abbrev q235 (p0 : q6) := ((bif decide (q441 p0) then true else decide ((20 : Int) < (lnZ p0.1))) = true -> false = mayO p0.1)
abbrev q236 (p0 : q6) := (decide (q441 p0) = false -> (decide (q441 p0) == false) = true /\ True)
abbrev q237 (p0 : q6) (p1 : q10) := (decide (q443 p0 p1) = false -> True)
abbrev q238 (p0 : q6) := (bif decide (q441 p0) then true else decide ((20 : Int) < (lnZ p0.1)))
abbrev q239 (p0 : q6) := (Kd.wf (Kd.sl q541) p0.1 /\ True)
abbrev q240 (p0 : q10) (p1 : q6) := (q421 <= p0.1 /\ p0.1 < (lnZ p1.1))
abbrev q241 := (Kd.dft q541)
abbrev q242 (p0 : q0) (p1 : q1) := (↑(BitVec.toNat (BitVec.ofInt q524 (IntKind.wrap IntKind.u8 (Int.fdiv p0.2.1 (q445 ^ min (q411 p1) (64 : Nat)))) ||| BitVec.ofInt q524 (128 : Int))) :
  Int)
abbrev q243 (p0 : q0) := (↑(BitVec.toNat (BitVec.ofInt q524 (IntKind.wrap IntKind.u8 p0.2.1) &&& BitVec.ofInt q524 (127 : Int))) : Int)
abbrev q244 (p0 : q0) := (wyZ p0.1 /\ wiZ p0.2.1 /\ True)
abbrev q245 (p0 : q1) := (wrZ ((128 : Int) + Int.tmod p0.1 (128 : Int)))
abbrev q246 (p0 : q6) := (wrZ (wrZ ((40 : Int) * List.getD p0.1 q437 q470) + List.getD p0.1 q527 q470))
abbrev q247 (p0 : q6) := (wrZ ((40 : Int) * List.getD p0.1 q437 q470) + List.getD p0.1 q527 q470)
abbrev q248 (p0 : q6) := (lnZ (List.drop (2 : Nat) p0.1))
abbrev q249 (p0 : q1) := (p0.1 + q458)
abbrev q250 (p0 : q6) (p1 : q6) := (List.length p0.1 + List.length p1.1)
def t105 : Prop :=
  ∀ (x : q6), (q239 x) -> True -> (decide (q441 x) = false -> True) /\ (q236 x) /\ (q236 x) /\ (decide (q441 x) = false -> (decide (q441 x) == false) = true) /\ (q235 x) /\ ((q238 x) = false
  -> ∃ (I : q8), ∃ (μ : q9), ((lnZ x.1) = (lnZ x.1) /\ x.1 = x.1 /\ Value.bool false = Value.bool false /\ x.1 = x.1 /\ I (q40, false, ()) ()) /\ ∀ (y : q10) (z : Unit), (q87 y) -> True -> I
  y z -> (decide (y.1 < (lnZ x.1)) = true -> (q240 y x) /\ (q237 x y) /\ (q232 x y) /\ (q233 x y) /\ (q231 x y) /\ ((q234 x y) = false -> (lnZ x.1) = (lnZ x.1) /\ x.1 = x.1 /\ Value.bool
  false = Value.bool false /\ x.1 = x.1 /\ I (wrZ (q89 y), y.2.1, ()) () /\ μ (wrZ (q89 y), y.2.1, ()) () < μ y z)) /\ (decide (y.1 < (lnZ x.1)) = false -> (q67 x) /\ (decide (List.getD x.1
  q74 q241 = q40) = true -> (q68 x) /\ decide (List.getD x.1 q42 q241 < (40 : Int)) = mayO x.1) /\ (decide (List.getD x.1 q74 q241 = q40) = false -> (decide (List.getD x.1 q74 q241 = q75) =
  true -> (q68 x) /\ decide (List.getD x.1 q42 q241 < (40 : Int)) = mayO x.1) /\ (decide (List.getD x.1 q74 q241 = q75) = false -> (decide (List.getD x.1 q74 q241 = q77) = true -> (q68 x) /\
  decide (List.getD x.1 q42 q241 <= (2147483567 : Int)) = mayO x.1) /\ (decide (List.getD x.1 q74 q241 = q77) = false -> false = mayO x.1)))))
theorem e105 : t105 = Con.vc c_oid_May GL (mkEnv ty [] [] [] [0, 2, 4, 12, 13, 14, 15, 16, 24, 28, 29, 36]) {} Tryz.f105.ntmps Tryz.f105.results.toList (bodyOf Tryz.f105) := by kernel_rfl
theorem k105 : t105 := by
  unfold t105
  delta q6 q239 q441 q236 q235 q238 q8 q9 lnZ q40 q10 q87 q240 q237 q232 q233 q231 q234 wrZ q89 q67 q74 q241 q68 q42 q75 q77 q541 wiZ wbZ q421 q443 q442 q444 q418 q470 q458 q529
  rintro ⟨l, _⟩ hx hp
  try dsimp +instances only [dft_int, dft_sl, dft_str]
  simp only [true_and, and_true, eq_self_iff_true, implies_true, reduceCtorEq, false_implies, true_implies, decide_eq_true_eq, decide_eq_false_iff_not, beq_self_eq_true, Bool.not_eq_true', ne_eq, Decidable.not_not, List.nil_append, List.length_singleton, List.length_cons, List.length_nil, Nat.zero_add, Nat.add_zero, Nat.mul_one, and_self, beq_iff_eq, Bool.not_true, Bool.not_false, Bool.not_eq_false', Bool.cond_false_right, Bool.and_eq_true, imp_self, Bool.not_eq_true, Bool.cond_true_left, Bool.or_eq_true]
  refine ⟨fun h => (may_len h).symm, fun h => ?_⟩
  simp only [Bool.or_eq_false_iff, decide_eq_false_iff_not] at h
  refine ⟨fun y _ => 0 ≤ y.1 ∧ y.1 ≤ l.length ∧ ∀ j, j < y.1.toNat → 0 ≤ l.getD j 0 ∧ l.getD j 0 ≤ 2147483647, fun y _ => ((l.length : Int) - y.1).toNat, ⟨Int.le_refl 0, by simp only; omega, fun j hj => by simp at hj⟩, ?_⟩
  rintro ⟨i, b, _⟩ _ _ ⟨i0, i1, i2⟩
  simp only at i0 i1 i2 ⊢
  have hw1 : IntKind.wrap .i64 (i + 1) = i + 1 := wrapK _ (by omega) (by omega)
  rw [hw1]
  refine ⟨fun hlt => ⟨⟨i0, hlt⟩, fun hb => (may_in (by omega) hb).symm, fun hg => ⟨⟨by omega, by omega, fun j hj => ?_⟩, by omega⟩⟩, fun hge => ?_⟩
  . simp only [Bool.or_eq_false_iff, decide_eq_false_iff_not] at hg
    by_cases hji : j < i.toNat
    . exact i2 j hji
    . rw [show j = i.toNat by omega]; omega
  . have hr := may_rest (l := l) (by omega) (by omega) (fun j hj => i2 j (by omega))
    have h0 := i2 0 (by omega)
    rw [hr]
    refine ⟨⟨by omega, by omega⟩, fun e => ⟨⟨by omega, by omega⟩, by rw [if_pos (by omega)]⟩, fun e0 => ⟨fun e => ⟨⟨by omega, by omega⟩, by rw [if_pos (by omega)]⟩, fun e1 => ⟨fun e => ⟨⟨by omega, by omega⟩, by rw [if_neg (by omega), if_pos e]⟩, fun e2 => by rw [if_neg (by omega), if_neg e2]⟩⟩⟩
theorem h105 : c_oid_May.ok Tryz.prog GL 105 := con_ok (H := {}) (mkEnv_ok (gl := GL) (l := []) (q := []) (d := []) _ tyOk (by kernel_rfl) trivial trivial trivial) (by kernel_rfl) (by kernel_rfl) (Eq.mp e105 k105)
def t108 : Prop :=
  ∀ (x : q6), (q239 x) -> True -> (decide (q441 x) = false -> True) /\ (q236 x) /\ (q236 x) /\ (decide (q441 x) = false -> (decide (q441 x) == false) = true) /\ (q235 x) /\ ((q238 x) = false
  -> ∃ (I : q8), ∃ (μ : q9), (Value.bool false = Value.bool false /\ x.1 = x.1 /\ I (q40, false, ()) ()) /\ ∀ (y : q10) (z : Unit), (q87 y) -> True -> I y z -> (decide (y.1 < (lnZ x.1)) =
  true -> (q240 y x) /\ (q237 x y) /\ (q237 x y) /\ (decide (q443 x y) = false -> (q442 x y) = true /\ (q442 x y) = true /\ (q240 y x) /\ True) /\ (q232 x y) /\ (q232 x y) /\ (q233 x y) /\
  (q231 x y) /\ ((q234 x y) = false -> Value.bool false = Value.bool false /\ x.1 = x.1 /\ I (wrZ (q89 y), y.2.1, ()) () /\ μ (wrZ (q89 y), y.2.1, ()) () < μ y z)) /\ (decide (y.1 < (lnZ
  x.1)) = false -> (q67 x) /\ (decide (q77 < List.getD x.1 q74 q241) = true -> false = mayO x.1) /\ (decide (q77 < List.getD x.1 q74 q241) = false -> (q67 x) /\ (decide (List.getD x.1 q74
  q241 < q77) = true -> (q68 x) /\ decide (List.getD x.1 q42 q241 <= (39 : Int)) = mayO x.1) /\ (decide (List.getD x.1 q74 q241 < q77) = false -> (q68 x) /\ decide (List.getD x.1 q42 q241 <=
  (2147483567 : Int)) = mayO x.1))))
theorem e108 : t108 = Con.vc c_r03_May GL (mkEnv ty [] [] [] [0, 2, 3, 11, 15, 29, 33, 37]) {} Tryz.f108.ntmps Tryz.f108.results.toList (bodyOf Tryz.f108) := by kernel_rfl
theorem k108 : t108 := by
  unfold t108
  delta q6 q239 q441 q236 q235 q238 q8 q9 q40 q10 q87 lnZ q240 q237 q443 q442 q232 q233 q231 q234 wrZ q89 q67 q77 q74 q241 q68 q42 q541 wiZ wbZ q421 q529 q444 q418 q470 q458
  rintro ⟨l, _⟩ hx hp
  try dsimp +instances only [dft_int, dft_sl, dft_str]
  simp only [true_and, and_true, eq_self_iff_true, implies_true, reduceCtorEq, false_implies, true_implies, decide_eq_true_eq, decide_eq_false_iff_not, beq_self_eq_true, Bool.not_eq_true', ne_eq, Decidable.not_not, List.nil_append, List.length_singleton, List.length_cons, List.length_nil, Nat.zero_add, Nat.add_zero, Nat.mul_one, and_self, beq_iff_eq, Bool.not_true, Bool.not_false, Bool.not_eq_false', Bool.cond_false_right, Bool.and_eq_true, imp_self, Bool.not_eq_true, Bool.cond_true_left, Bool.or_eq_true]
  refine ⟨fun h => (may_len h).symm, fun h => ?_⟩
  simp only [Bool.or_eq_false_iff, decide_eq_false_iff_not] at h
  refine ⟨fun y _ => 0 ≤ y.1 ∧ y.1 ≤ l.length ∧ ∀ j, j < y.1.toNat → 0 ≤ l.getD j 0 ∧ l.getD j 0 ≤ 2147483647, fun y _ => ((l.length : Int) - y.1).toNat, ⟨Int.le_refl 0, by simp only; omega, fun j hj => by simp at hj⟩, ?_⟩
  rintro ⟨i, b, _⟩ _ _ ⟨i0, i1, i2⟩
  simp only at i0 i1 i2 ⊢
  have hw1 : IntKind.wrap .i64 (i + 1) = i + 1 := wrapK _ (by omega) (by omega)
  rw [hw1]
  refine ⟨fun hlt => ⟨⟨i0, hlt⟩, fun hn => ⟨hn, hn, i0, hlt⟩, fun hb => (may_in (by omega) hb).symm, fun hg => ⟨⟨by omega, by omega, fun j hj => ?_⟩, by omega⟩⟩, fun hge => ?_⟩
  . simp only [Bool.or_eq_false_iff, decide_eq_false_iff_not] at hg
    by_cases hji : j < i.toNat
    . exact i2 j hji
    . rw [show j = i.toNat by omega]; omega
  . have hr := may_rest (l := l) (by omega) (by omega) (fun j hj => i2 j (by omega))
    have h0 := i2 0 (by omega)
    rw [hr]
    refine ⟨⟨by omega, by omega⟩, fun e => by rw [if_neg (by omega), if_neg (by omega)], fun e0 => ⟨⟨by omega, by omega⟩, fun e => ⟨⟨by omega, by omega⟩, by rw [if_pos (by omega)]; exact decide_eq_decide.2 (by omega)⟩, fun e1 => ⟨⟨by omega, by omega⟩, by rw [if_neg (by omega), if_pos (by omega)]⟩⟩⟩
theorem h108 : c_r03_May.ok Tryz.prog GL 108 := con_ok (H := {}) (mkEnv_ok (gl := GL) (l := []) (q := []) (d := []) _ tyOk (by kernel_rfl) trivial trivial trivial) (by kernel_rfl) (by kernel_rfl) (Eq.mp e108 k108)
def t106 : Prop :=
  ∀ (x : q0), (q244 x) -> lenI x.1 <= (1000 : Nat) /\ q40 <= x.2.1 /\ x.2.1 <= q444 -> ∃ (I : q13), ∃ (μ : Int × Unit -> Unit -> Nat), (Value.slice none q74 q74 = Value.slice none q74 q74 /\
  x.2.1 = x.2.1 /\ x.1 = x.1 /\ I (q40, ()) ()) /\ ∀ (y : q1) (z : Unit), (q36 y) -> True -> I y z -> q40 <= y.1 /\ (decide ((127 : Int) < Int.fdiv x.2.1 (q445 ^ min (q411 y) (64 : Nat))) =
  true -> Value.slice none q74 q74 = Value.slice none q74 q74 /\ x.2.1 = x.2.1 /\ x.1 = x.1 /\ I (wrZ (y.1 + (7 : Int)), ()) () /\ μ (wrZ (y.1 + (7 : Int)), ()) () < μ y z) /\ (decide ((127 :
  Int) < Int.fdiv x.2.1 (q445 ^ min (q411 y) (64 : Nat))) = false -> ∃ (I : q19), ∃ (μ : q20), (Value.bool false = Value.bool false /\ Value.slice none q74 q74 = Value.slice none q74 q74 /\
  x.2.1 = x.2.1 /\ I (y.1, ()) (x.1, ())) /\ ∀ (y : q1) (z : q6), (q36 y) -> (q159 z) -> I y z -> (decide (q421 < y.1) = true -> q40 <= y.1 /\ q74 < q42 /\ (List.length z.1 + List.length
  [IntKind.wrap IntKind.u8 (q242 x y)]) * q42 <= q158 /\ List.length z.1 + List.length [IntKind.wrap IntKind.u8 (q242 x y)] <= q157 /\ Value.bool false = Value.bool false /\ Value.slice none
  q74 q74 = Value.slice none q74 q74 /\ x.2.1 = x.2.1 /\ I (wrZ (y.1 - (7 : Int)), ()) (z.1 ++ [IntKind.wrap IntKind.u8 (q242 x y)], ()) /\ μ (wrZ (y.1 - (7 : Int)), ()) (z.1 ++ [IntKind.wrap
  IntKind.u8 (q242 x y)], ()) < μ y z) /\ (decide (q421 < y.1) = false -> q74 < q42 /\ (List.length z.1 + List.length [IntKind.wrap IntKind.u8 (q243 x)]) * q42 <= q158 /\ List.length z.1 +
  List.length [IntKind.wrap IntKind.u8 (q243 x)] <= q157 /\ z.1 ++ [IntKind.wrap IntKind.u8 (q243 x)] = x.1 ++ numO x.2.1))
theorem e106 : t106 = Con.vc c_oid_number GL (mkEnv ty [] [] [] [0, 1, 4, 5, 9, 13]) {} Tryz.f106.ntmps Tryz.f106.results.toList (bodyOf Tryz.f106) := by kernel_rfl
theorem k106 : t106 := by
  unfold t106
  delta q0 q244 q40 q444 q13 q74 q1 q36 q445 q411 wrZ q19 q20 q6 q159 q421 q42 q242 q158 q157 q243 wyZ wiZ q524
  rintro ⟨b, n, _⟩ hx hp
  obtain ⟨p0, p1, p2⟩ := hp
  simp only at p0 p1 p2
  have p0 : b.length ≤ 1000 := p0
  have h4 := small4 p2
  try dsimp +instances only [dft_int, dft_sl, dft_str]
  simp only [true_and, and_true, eq_self_iff_true, implies_true, reduceCtorEq, false_implies, true_implies, decide_eq_true_eq, decide_eq_false_iff_not, beq_self_eq_true, Bool.not_eq_true', ne_eq, Decidable.not_not, List.nil_append, List.length_singleton, List.length_cons, List.length_nil, Nat.zero_add, Nat.add_zero, Nat.mul_one, and_self, beq_iff_eq, Bool.not_true, Bool.not_false, Bool.not_eq_false', Bool.cond_false_right, Bool.and_eq_true, imp_self, Bool.not_eq_true, Bool.cond_true_left, Bool.or_eq_true]
  refine ⟨fun y _ => ∃ k : Nat, k ≤ 4 ∧ y.1 = 7 * (k : Int) ∧ (0 < k → 0 < n / 128 ^ k), fun y _ => (28 - y.1).toNat, ⟨0, by omega, rfl, fun h => absurd h (by omega)⟩, ?_⟩
  rintro ⟨y, _⟩ _ _ ⟨k, k4, rfl, hk⟩
  simp only
  rw [shift_div n k p1 k4]
  refine ⟨by omega, fun hlt => ?_, fun hge => ?_⟩
  . have : k < 4 := by
      rcases Nat.lt_or_ge k 4 with h | h
      . exact h
      . rw [show k = 4 by omega] at hlt; omega
    rw [show IntKind.wrap .i64 (7 * (k : Int) + 7) = 7 * ((k + 1 : Nat) : Int) by rw [wrapK _ (by omega) (by omega)]; omega]
    refine ⟨⟨k + 1, by omega, rfl, fun _ => ?_⟩, by omega⟩
    rw [pow_div n k k4]
    omega
  . have hN : hiN n = k := hi_is p1 k4 (by omega) hk
    refine ⟨fun y z => ∃ j : Nat, j ≤ k ∧ y.1 = 7 * (j : Int) ∧ z.1 ++ hiD j n = b ++ hiD k n, fun y _ => y.1.toNat, ⟨k, Nat.le_refl k, rfl, rfl⟩, ?_⟩
    rintro ⟨y, _⟩ ⟨z, _⟩ _ _ ⟨j, jk, rfl, hz⟩
    simp only at hz ⊢
    have hl : z.length + j = b.length + k := by
      have := congrArg List.length hz
      rwa [List.length_append, List.length_append, hi_length, hi_length] at this
    refine ⟨fun hj => ?_, fun hj => ?_⟩
    . obtain ⟨i, rfl⟩ : ∃ i, j = i + 1 := ⟨j - 1, by omega⟩
      rw [shift_div n (i + 1) p1 (by omega), or128, show IntKind.wrap .i64 (7 * ((i + 1 : Nat) : Int) - 7) = 7 * (i : Int) by rw [wrapK _ (by omega) (by omega)]; omega]
      refine ⟨by omega, by decide, by omega, by omega, ⟨i, by omega, rfl, ?_⟩, by omega⟩
      rw [List.append_assoc]
      exact hz
    . have : j = 0 := by omega
      subst this
      rw [and127]
      refine ⟨by decide, by omega, by omega, ?_⟩
      rw [numO, hN, ← List.append_assoc, ← hz]
      simp [hiD]
theorem h106 : c_oid_number.ok Tryz.prog GL 106 := con_ok (H := {}) (mkEnv_ok (gl := GL) (l := []) (q := []) (d := []) _ tyOk (by kernel_rfl) trivial trivial trivial) (by kernel_rfl) (by kernel_rfl) (Eq.mp e106 k106)
def t109 : Prop :=
  ∀ (x : q1), (q36 x) -> q40 <= x.1 /\ x.1 <= q444 -> q102 ≠ q40 /\ q102 ≠ q40 /\ ∃ (I : q19), ∃ (μ : q20), (Value.slice none q74 q74 = Value.slice none q74 q74 /\ I (wrZ (Int.tdiv x.1 q102),
  ()) ([IntKind.wrap IntKind.u8 (Int.tmod x.1 q102)], ())) /\ ∀ (y : q1) (z : q6), (q36 y) -> (q159 z) -> I y z -> (decide (q421 < y.1) = true -> q102 ≠ q40 /\ q74 < q42 /\ (List.length
  [IntKind.wrap IntKind.u8 (q245 y)] + List.length z.1) * q42 <= q158 /\ List.length [IntKind.wrap IntKind.u8 (q245 y)] + List.length z.1 <= q157 /\ q102 ≠ q40 /\ Value.slice none q74 q74 =
  Value.slice none q74 q74 /\ I (wrZ (Int.tdiv y.1 q102), ()) ([IntKind.wrap IntKind.u8 (q245 y)] ++ z.1, ()) /\ μ (wrZ (Int.tdiv y.1 q102), ()) ([IntKind.wrap IntKind.u8 (q245 y)] ++ z.1,
  ()) < μ y z) /\ (decide (q421 < y.1) = false -> z.1 = numO x.1)
theorem e109 : t109 = Con.vc c_r03_Number GL (mkEnv ty [] [] [] [0, 2, 3, 11]) {} Tryz.f109.ntmps Tryz.f109.results.toList (bodyOf Tryz.f109) := by kernel_rfl
theorem k109 : t109 := by
  unfold t109
  delta q1 q36 q40 q444 q102 q19 q20 q74 wrZ q6 q159 q421 q42 q245 q158 q157 wiZ wyZ
  rintro ⟨n, _⟩ hx hp
  obtain ⟨p1, p2⟩ := hp
  simp only at p1 p2
  have h4 := small4 p2
  try dsimp +instances only [dft_int, dft_sl, dft_str]
  simp only [true_and, and_true, eq_self_iff_true, implies_true, reduceCtorEq, false_implies, true_implies, decide_eq_true_eq, decide_eq_false_iff_not, beq_self_eq_true, Bool.not_eq_true', ne_eq, Decidable.not_not, List.nil_append, List.length_singleton, List.length_cons, List.length_nil, Nat.zero_add, Nat.add_zero, Nat.mul_one, and_self, beq_iff_eq, Bool.not_true, Bool.not_false, Bool.not_eq_false', Bool.cond_false_right, Bool.and_eq_true, imp_self, Bool.not_eq_true, Bool.cond_true_left, Bool.or_eq_true]
  have hd : ∀ m : Int, 0 ≤ m → m ≤ 2147483647 → IntKind.wrap .i64 (m.tdiv 128) = m / 128 := fun m h0 h1 => by
    rw [Int.tdiv_eq_ediv_of_nonneg h0, wrapK _ (by omega) (by omega)]
  have hm : ∀ m : Int, 0 ≤ m → m.tmod 128 = m % 128 := fun m h0 => Int.tmod_eq_emod_of_nonneg h0
  rw [hd n p1 p2, hm n p1]
  refine ⟨by decide, by decide, fun y z => ∃ j : Nat, j ≤ 4 ∧ y.1 = n / 128 ^ (j + 1) ∧ z.1 = hiD j n ++ [n % 128] ∧ (0 < j → 0 < n / 128 ^ j), fun y _ => y.1.toNat, ⟨0, by omega, by simp, by simp only [hiD, List.nil_append]; rw [wrap_u8]; congr 1; omega, fun h => absurd h (by omega)⟩, ?_⟩
  rintro ⟨y, _⟩ ⟨z, _⟩ _ _ ⟨j, j4, ey, ez, hj⟩
  simp only at ey ez ⊢
  subst ez
  have e1 := pow_div n j j4
  have hb : 0 ≤ y ∧ y ≤ 2147483647 := by
    have : j = 0 ∨ j = 1 ∨ j = 2 ∨ j = 3 ∨ j = 4 := by omega
    rcases this with rfl | rfl | rfl | rfl | rfl <;> simp only [Nat.reduceAdd, Int.reducePow] at ey <;> omega
  refine ⟨fun hlt => ?_, fun hge => ?_⟩
  . have : j < 4 := by
      rcases Nat.lt_or_ge j 4 with h | h
      . exact h
      . rw [show j = 4 by omega] at e1 ey; omega
    rw [hd y hb.1 hb.2, hm y hb.1, wrapK (128 + y % 128) (by omega) (by omega)]
    have hl : (hiD j n ++ [n % 128]).length ≤ 5 := by rw [List.length_append, hi_length]; simp; omega
    refine ⟨by decide, by decide, by omega, by omega, by decide, ⟨j + 1, by omega, ?_, ?_, fun _ => by rw [← ey]; exact hlt⟩, by omega⟩
    . rw [pow_div n (j + 1) (by omega), ← ey]
    . rw [hiD, ← ey, wrap_u8]
      simp only [List.cons_append, List.nil_append]
      congr 1
      omega
  . have hN : hiN n = j := hi_is p1 j4 (by omega) hj
    rw [numO, hN]
theorem h109 : c_r03_Number.ok Tryz.prog GL 109 := con_ok (H := {}) (mkEnv_ok (gl := GL) (l := []) (q := []) (d := []) _ tyOk (by kernel_rfl) trivial trivial trivial) (by kernel_rfl) (by kernel_rfl) (Eq.mp e109 k109)
def t72 : Prop :=
  ∀ (x : q6), (q239 x) -> True -> True /\ (∀ (y : q4), (q49 y) -> y.1 = mayO x.1 -> ((!y.1) = true -> ([], q77) = EncO x.1) /\ ((!y.1) = false -> (q67 x) /\ (q68 x) /\ (lenI [] <= (1000 :
  Nat) /\ q40 <= wrZ (q247 x) /\ wrZ (q247 x) <= q444) /\ (∀ (y : q6), (q159 y) -> y.1 = [] ++ numO (q246 x) -> (q40 <= q77 /\ q77 <= (lnZ x.1)) /\ ∃ (I : q19), ∃ (μ : q20), ((q248 x) = (q248
  x) /\ List.drop q76 x.1 = List.drop q76 x.1 /\ Value.bool false = Value.bool false /\ q40 = q40 /\ Value.slice none q74 q74 = Value.slice none q74 q74 /\ x.1 = x.1 /\ I (q40, ()) (y.1, ()))
  /\ ∀ (y : q1) (z : q6), (q36 y) -> (q159 z) -> I y z -> (decide (y.1 < (q248 x)) = true -> (q40 <= y.1 /\ y.1 < (q248 x)) /\ (lenI z.1 <= (1000 : Nat) /\ q40 <= List.getD (List.drop (2 :
  Nat) x.1) (q411 y) q241 /\ List.getD (List.drop (2 : Nat) x.1) (q411 y) q241 <= q444) /\ (∀ (y_1 : q6), (q159 y_1) -> y_1.1 = z.1 ++ numO (List.getD (List.drop (2 : Nat) x.1) (q411 y) q241)
  -> (q248 x) = (q248 x) /\ List.drop q76 x.1 = List.drop q76 x.1 /\ Value.bool false = Value.bool false /\ q40 = q40 /\ Value.slice none q74 q74 = Value.slice none q74 q74 /\ x.1 = x.1 /\ I
  (wrZ (q249 y), ()) (y_1.1, ()) /\ μ (wrZ (q249 y), ()) (y_1.1, ()) < μ y z) /\ True) /\ (decide (y.1 < (q248 x)) = false -> (z.1, q40) = EncO x.1)) /\ True)) /\ True
theorem e72 : t72 = Con.vc c_oid_Encode GL (mkEnv ty [(105, conSem c_oid_May), (106, conSem c_oid_number)] [] [] [0, 2, 3, 4, 6, 9, 20, 21, 22, 23]) {} Tryz.f72.ntmps Tryz.f72.results.toList (bodyOf Tryz.f72) := by kernel_rfl
theorem k72 : t72 := by
  unfold t72
  delta q6 q239 q4 q49 q77 q67 q68 q40 wrZ q247 q444 q159 q246 lnZ q19 q20 q248 q76 q74 q1 q36 q411 q241 q249 q541 wbZ q421 q458 q437 q470 q527 wyZ wiZ
  rintro ⟨l, _⟩ hx hp
  try dsimp +instances only [dft_int, dft_sl, dft_str]
  simp only [true_and, and_true, eq_self_iff_true, implies_true, reduceCtorEq, false_implies, true_implies, decide_eq_true_eq, decide_eq_false_iff_not, beq_self_eq_true, Bool.not_eq_true', ne_eq, Decidable.not_not, List.nil_append, List.length_singleton, List.length_cons, List.length_nil, Nat.zero_add, Nat.add_zero, Nat.mul_one, and_self, beq_iff_eq, Bool.not_true, Bool.not_false, Bool.not_eq_false', Bool.cond_false_right, Bool.and_eq_true, imp_self, Bool.not_eq_true, Bool.cond_true_left, Bool.or_eq_true]
  simp only [all_bool]
  refine ⟨fun h => by rw [EncO, h]; rfl, fun h => ?_⟩
  obtain ⟨h1, h2, h3, h4, h5⟩ := may_args h
  have hg : ∀ i, i < l.length → 0 ≤ l.getD i 0 ∧ l.getD i 0 ≤ 2147483647 := fun i hi => h3 _ (by
    rw [List.getD_eq_getElem?_getD, List.getElem?_eq_getElem hi]
    exact List.getElem_mem _)
  have g0 := hg 0 (by omega)
  have g1 := hg 1 (by omega)
  rw [wrapK (40 * l.getD 0 0) (by omega) (by omega), wrapK (40 * l.getD 0 0 + l.getD 1 0) (by omega) (by omega)]
  refine ⟨⟨by omega, by omega⟩, ⟨by omega, by omega⟩, ⟨by decide, h4, h5⟩, ?_⟩
  rintro ⟨a, _⟩ _ ea
  simp only at ea ⊢
  have hdl : (List.drop 2 l).length = l.length - 2 := List.length_drop
  have hdg : ∀ i : Nat, (List.drop 2 l).getD i 0 = l.getD (i + 2) 0 := fun i => by
    rw [List.getD_eq_getElem?_getD, List.getElem?_drop, ← List.getD_eq_getElem?_getD, Nat.add_comm]
  rw [hdl]
  refine ⟨⟨by omega, by omega⟩, fun y z => 0 ≤ y.1 ∧ y.1 ≤ (l.length : Int) - 2 ∧ z.1 = encP l (y.1.toNat + 2), fun y _ => ((l.length : Int) - y.1).toNat, ⟨Int.le_refl 0, by simp only; omega, by rw [ea]; exact (encP_two l).symm⟩, ?_⟩
  rintro ⟨i, _⟩ ⟨z, _⟩ _ _ ⟨i0, i1, ez⟩
  simp only at i0 i1 ez ⊢
  have hw1 : IntKind.wrap .i64 (i + 1) = i + 1 := wrapK _ (by omega) (by omega)
  rw [hw1, hdg]
  refine ⟨fun hlt => ⟨⟨by omega, hlt⟩, ⟨?_, hg (i.toNat + 2) (by omega)⟩, ?_⟩, fun hge => ?_⟩
  . have l1 := encP_len l (i.toNat + 2)
    rw [← ez] at l1
    show z.length ≤ 1000
    omega
  . rintro ⟨c, _⟩ _ ec
    simp only at ec ⊢
    refine ⟨⟨by omega, by omega, ?_⟩, by omega⟩
    rw [show (i + 1).toNat + 2 = i.toNat + 2 + 1 by omega, encP_step (by omega) (by omega), ec, ez]
  . rw [EncO, h, if_pos rfl, ez, encP_all (by omega)]
theorem h72 : c_oid_Encode.ok Tryz.prog GL 72 := con_ok (H := {}) (mkEnv_ok (gl := GL) (l := [(105, conSem c_oid_May), (106, conSem c_oid_number)]) (q := []) (d := []) _ tyOk (by kernel_rfl) ⟨h105.call, h106.call, trivial⟩ trivial trivial) (by kernel_rfl) (by kernel_rfl) (Eq.mp e72 k72)
def t75 : Prop :=
  ∀ (x : q6), (q239 x) -> True -> True /\ (∀ (y : q4), (q49 y) -> y.1 = mayO x.1 -> ((!y.1) = true -> ([], q77) = EncO x.1) /\ ((!y.1) = false -> (q67 x) /\ (q68 x) /\ (q40 <= wrZ (q247 x) /\
  wrZ (q247 x) <= q444) /\ (∀ (y : q6), (q159 y) -> y.1 = numO (q246 x) -> ∃ (I : q19), ∃ (μ : q20), (Value.bool false = Value.bool false /\ q40 = q40 /\ Value.slice none q74 q74 =
  Value.slice none q74 q74 /\ x.1 = x.1 /\ I (q77, ()) (y.1, ())) /\ ∀ (y : q1) (z : q6), (q36 y) -> (q159 z) -> I y z -> (decide (y.1 < (lnZ x.1)) = true -> (q40 <= y.1 /\ y.1 < (lnZ x.1))
  /\ (q40 <= List.getD x.1 (q411 y) q241 /\ List.getD x.1 (q411 y) q241 <= q444) /\ (∀ (y_1 : q6), (q159 y_1) -> y_1.1 = numO (List.getD x.1 (q411 y) q241) -> q74 < q42 /\ (q250 z y_1) * q42
  <= q158 /\ List.length z.1 + List.length y_1.1 <= q157 /\ Value.bool false = Value.bool false /\ q40 = q40 /\ Value.slice none q74 q74 = Value.slice none q74 q74 /\ x.1 = x.1 /\ I (wrZ
  (q249 y), ()) (z.1 ++ y_1.1, ()) /\ μ (wrZ (q249 y), ()) (z.1 ++ y_1.1, ()) < μ y z) /\ True) /\ (decide (y.1 < (lnZ x.1)) = false -> (z.1, q40) = EncO x.1)) /\ True)) /\ True
theorem e75 : t75 = Con.vc c_r03_Encode GL (mkEnv ty [(108, conSem c_r03_May), (109, conSem c_r03_Number)] [] [] [0, 2, 3, 4, 5, 8, 21]) {} Tryz.f75.ntmps Tryz.f75.results.toList (bodyOf Tryz.f75) := by kernel_rfl
theorem k75 : t75 := by
  unfold t75
  delta q6 q239 q4 q49 q77 q67 q68 q40 wrZ q247 q444 q159 q246 q19 q20 q74 q1 q36 lnZ q411 q241 q42 q250 q158 q157 q249 q541 wbZ q421 q458 q437 q470 q527 wyZ wiZ
  rintro ⟨l, _⟩ hx hp
  try dsimp +instances only [dft_int, dft_sl, dft_str]
  simp only [true_and, and_true, eq_self_iff_true, implies_true, reduceCtorEq, false_implies, true_implies, decide_eq_true_eq, decide_eq_false_iff_not, beq_self_eq_true, Bool.not_eq_true', ne_eq, Decidable.not_not, List.nil_append, List.length_singleton, List.length_cons, List.length_nil, Nat.zero_add, Nat.add_zero, Nat.mul_one, and_self, beq_iff_eq, Bool.not_true, Bool.not_false, Bool.not_eq_false', Bool.cond_false_right, Bool.and_eq_true, imp_self, Bool.not_eq_true, Bool.cond_true_left, Bool.or_eq_true]
  simp only [all_bool]
  refine ⟨fun h => by rw [EncO, h]; rfl, fun h => ?_⟩
  obtain ⟨h1, h2, h3, h4, h5⟩ := may_args h
  have hg : ∀ i, i < l.length → 0 ≤ l.getD i 0 ∧ l.getD i 0 ≤ 2147483647 := fun i hi => h3 _ (by
    rw [List.getD_eq_getElem?_getD, List.getElem?_eq_getElem hi]
    exact List.getElem_mem _)
  have g0 := hg 0 (by omega)
  have g1 := hg 1 (by omega)
  rw [wrapK (40 * l.getD 0 0) (by omega) (by omega), wrapK (40 * l.getD 0 0 + l.getD 1 0) (by omega) (by omega)]
  refine ⟨⟨by omega, by omega⟩, ⟨by omega, by omega⟩, ⟨h4, h5⟩, ?_⟩
  rintro ⟨a, _⟩ _ ea
  simp only at ea ⊢
  refine ⟨fun y z => 2 ≤ y.1 ∧ y.1 ≤ l.length ∧ z.1 = encP l y.1.toNat, fun y _ => ((l.length : Int) - y.1).toNat, ⟨by simp, by simp only; omega, by rw [ea]; exact (encP_two l).symm⟩, ?_⟩
  rintro ⟨i, _⟩ ⟨z, _⟩ _ _ ⟨i0, i1, ez⟩
  simp only at i0 i1 ez ⊢
  have hw1 : IntKind.wrap .i64 (i + 1) = i + 1 := wrapK _ (by omega) (by omega)
  rw [hw1]
  refine ⟨fun hlt => ⟨⟨by omega, hlt⟩, hg i.toNat (by omega), ?_⟩, fun hge => ?_⟩
  . rintro ⟨c, _⟩ _ ec
    simp only at ec ⊢
    have l1 := encP_len l i.toNat
    have l2 := num_length (l.getD i.toNat 0)
    rw [← ez] at l1
    rw [← ec] at l2
    refine ⟨by decide, by omega, by omega, ⟨by omega, by omega, ?_⟩, by omega⟩
    rw [show (i + 1).toNat = i.toNat + 1 by omega, encP_step (by omega) (by omega), ez, ec]
  . rw [EncO, h, if_pos rfl, ez, encP_all (by omega)]
theorem h75 : c_r03_Encode.ok Tryz.prog GL 75 := con_ok (H := {}) (mkEnv_ok (gl := GL) (l := [(108, conSem c_r03_May), (109, conSem c_r03_Number)]) (q := []) (d := []) _ tyOk (by kernel_rfl) ⟨h108.call, h109.call, trivial⟩ trivial trivial) (by kernel_rfl) (by kernel_rfl) (Eq.mp e75 k75)
end Go.Proofs.YtlpbhgcndebkcaaGreatDoor
end
