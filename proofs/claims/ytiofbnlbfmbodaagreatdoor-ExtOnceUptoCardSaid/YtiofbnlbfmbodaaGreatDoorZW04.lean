/- Texts of a verified walk, led together: DerA, DerW, DerrA, DerrW, OidA, OidW. -/
import Derived.Test.YtiofbnlbfmbodaaGreatDoorZW03
import Derived.Test.YtiofbnlbfmbodaaGreatDoorZV10
import Derived.Test.YtiofbnlbfmbodaaGreatDoorZV09
set_option linter.unusedVariables false
set_option linter.unusedSimpArgs false
section
namespace Go.Proofs.YtiofbnlbfmbodaaGreatDoor
open Go Go.Vc Go.Pl Go.Proofs
def c_der_isTag : Con := { args := [.dat I64], res := [.dat .bool], pre := fun _ => True, post := fun x y => y.1 = isTagD x.1 }
def c_der_length : Con := { args := [.dat I64], res := [.own 5 U8], pre := fun x => 0 ≤ x.1 ∧ x.1 ≤ 16777215, post := fun x y => y.1 = lngD x.1 }
def c_slices_Clone_byte_byte : Con := { args := [.dat BY], res := [.dat BY], pre := fun x => lenB x.1 ≤ 1000000000, post := fun x y => y.1 = x.1 }
def c_slices_Concat_byte_byte : Con := { args := [.dat (.sl BY)], res := [.own 5 U8], pre := fun x => lenF x.1 ≤ 1000000000, post := fun x y => y.1 = x.1.flatten }
def c_der_Put : Con := { args := [.dat BY, .dat I64, .dat (.sl BY)], res := [.own 5 U8, .dat I64], pre := fun x => lenB x.1 ≤ 900000000, post := fun x y => (y.1, y.2.1) = PutD x.1 x.2.1 x.2.2.1.flatten }
def c_der_head : Con := { args := [.dat BY], res := [.dat I64, .dat I64, .dat I64, .dat I64], pre := fun x => lenB x.1 ≤ 1000000000, post := fun x y => (y.1, y.2.1, y.2.2.1, y.2.2.2.1) = headK x.1 }
def c_der_Take : Con := { args := [.dat BY], res := [.dat ET, .dat I64, .dat I64], pre := fun x => lenB x.1 ≤ 1000000000, post := fun x y => (y.1, y.2.1, y.2.2.1) = takeD x.1 }
def c_der_One : Con := { args := [.dat BY], res := [.dat ET, .dat I64], pre := fun x => lenB x.1 ≤ 1000000000, post := fun x y => (y.1, y.2.1) = oneD x.1 }
def c_der_Size : Con := { args := [.dat I64], res := [.dat I64], pre := fun _ => True, post := fun x y => y.1 = sizeD x.1 }
def c_der_All : Con := { args := [.dat BY], res := [.own 116 ET, .dat I64, .dat I64], pre := fun x => lenB x.1 ≤ 1000000000, post := fun x y => (y.1, y.2.1, y.2.2.1) = allD x.1 }
end Go.Proofs.YtiofbnlbfmbodaaGreatDoor
end
section
namespace Go.Proofs.YtiofbnlbfmbodaaGreatDoor
open Go Go.Vc Go.Pl Go.Proofs
set_option linter.unusedVariables false
set_option linter.unusedSimpArgs false
abbrev wyZ (x : List Int) : Prop := Kd.wf (Kd.sl (Kd.int IntKind.u8)) x
abbrev q11 := (List (List Int) × Unit)
abbrev q12 := (Int × Int × Unit -> Unit -> Prop)
abbrev q13 := (Int × Int × Unit -> Unit -> Nat)
abbrev q14 := (Int × Unit -> List Int × Unit -> Prop)
abbrev q15 := (Int × Unit -> List Int × Unit -> Nat)
abbrev q16 := ((Int × List Int) × Int × Int × Unit)
abbrev q339 (p0 : q1) := (bif decide (q421 <= p0.1) then decide (p0.1 <= (255 : Int)) else false)
abbrev q91 (p0 : q1) := ((q339 p0) = true -> ((q339 p0) == true) = true /\ True)
abbrev q92 (p0 : q1) := (Int.fdiv p0.1 (q343 ^ q360))
abbrev q93 := (9223372036854775807 : Nat)
abbrev q94 := (140737488355328 : Nat)
abbrev q95 := (1000000000 : Nat)
abbrev q96 (p0 : q5) := (wyZ p0.1 /\ True)
abbrev q451 := (Kd.sl (Kd.int IntKind.u8))
abbrev q376 := (Kd.dft q451)
abbrev q423 := (140737488355328 : Nat)
abbrev q422 := (9223372036854775807 : Nat)
abbrev q97 (p0 : q1) (p1 : q11) (p2 : q5) (p3 : q6) (p4 : q14) (p5 : q15) := (decide (p0.1 < (lnZ p1.1)) = true -> (q332 <= p0.1 /\ p0.1 < (lnZ p1.1)) /\ q347 < q416 /\ (List.length p2.1 +
  List.length (List.getD p1.1 (q330 p0) q376)) * q416 <= q423 /\ List.length p2.1 + List.length (List.getD p1.1 (q330 p0) q376) <= q422 /\ (lnZ p1.1) = (lnZ p1.1) /\ p1.1 = p1.1 /\ Value.bool
  false = Value.bool false /\ p3.1 = p3.1 /\ (lnZ p1.1) = (lnZ p1.1) /\ p1.1 = p1.1 /\ p3.2.1 = p3.2.1 /\ Value.slice none q347 q347 = Value.slice none q347 q347 /\ p1.1 = p1.1 /\ p4 (wrZ
  (p0.1 + (1 : Int)), ()) (p2.1 ++ List.getD p1.1 (q330 p0) q376, ()) /\ p5 (wrZ (p0.1 + (1 : Int)), ()) (p2.1 ++ List.getD p1.1 (q330 p0) q376, ()) < p5 p0 p2)
abbrev q340 (p0 : q6) := (p0.2.1 - wrZ (q421 - q421))
abbrev q98 (p0 : q6) := (List.replicate (Int.toNat (wrZ (q340 p0))) q375)
abbrev q99 (p0 : q6) (p1 : q11) := (p0.2.1 + (lnZ (List.getD p1.1 (Int.toNat p0.1) q376)))
abbrev q341 := (Kd.sl q451)
abbrev q100 (p0 : q11) := (Kd.wf q341 p0.1 /\ True)
abbrev q101 (p0 : q6) := (wiZ p0.1 /\ wiZ p0.2.1 /\ True)
abbrev q102 (p0 : List Int × Int × List (List Int) × Unit) (p1 : Int × Int × Int × Unit) := (lnZ (List.getD p0.2.2.1 (Int.toNat p1.1) q376))
abbrev q446 (p0 : q5) := (List.getD p0.1 (1 : Nat) (Kd.dft (Kd.int IntKind.u8)))
abbrev q427 (p0 : q5) := (wrZ (q446 p0) - (128 : Int))
abbrev q377 (p0 : q5) := (bif decide (wrZ (q427 p0) = q421) then true else decide ((3 : Int) < wrZ (q427 p0)))
abbrev q103 (p0 : q5) := (((q377 p0) == false && (q377 p0) == false) = true -> decide (q343 < (lnZ p0.1)) = true -> ((q377 p0) == false && (q377 p0) == false && decide (q343 < (lnZ p0.1))
  == true) = true /\ True)
abbrev q104 (p0 : q5) := ((q377 p0) == false && (q377 p0) == false && decide (q343 < (lnZ p0.1)) == true)
abbrev q342 (p0 : q5) := ((bif decide (wrZ (q427 p0) = q421) then true else decide ((3 : Int) < wrZ (q427 p0))) == false)
abbrev q105 (p0 : q5) := ((q377 p0) = false -> (q342 p0) = true /\ True)
abbrev q106 (p0 : q5) := ((q377 p0) == false && (q377 p0) == false)
abbrev q378 (p0 : q5) := (wrZ (q427 p0) = q421)
abbrev q379 (p0 : q5) := ((3 : Int) < wrZ (q427 p0))
abbrev q107 (p0 : q5) := (bif bif decide (q378 p0) then true else decide (q379 p0) then true else bif decide (q343 < (lnZ p0.1)) then decide (List.getD p0.1 (2 : Nat) q375 = q332) else
  false)
abbrev q426 (p0 : q5) := (Int.toNat (wrZ ((2 : Int) + wrZ (wrZ (q446 p0) - (128 : Int)))))
abbrev q380 (p0 : q5) := (List.drop (2 : Nat) (List.take (q426 p0) p0.1))
abbrev q108 (p0 : q6) (p1 : q5) := (↑(BitVec.toNat (BitVec.ofInt (64 : Nat) (wrZ (p0.2.1 * q343 ^ q360)) ||| BitVec.ofInt (64 : Nat) (wrZ (List.getD (q380 p1) (Int.toNat p0.1) q375)))) :
  Int)
abbrev q109 (p0 : q5) := ((q377 p0) = false -> True)
abbrev q110 (p0 : q5) := (bif decide (q378 p0) then true else decide (q379 p0))
abbrev q111 (p0 : q6) (p1 : q5) := (p0.1 < (lnZ (q380 p1)))
abbrev q112 (p0 : q5) := (lnZ (q380 p0))
abbrev q113 (p0 : q5) := (List.take (q426 p0) p0.1)
abbrev q114 (p0 : q5) := (decide (q378 p0) == false)
abbrev q115 (p0 : q5) := ((lnZ p0.1) < wrZ ((2 : Int) + wrZ (wrZ (q446 p0) - (128 : Int))))
abbrev q116 (p0 : q5) := (wrZ (q427 p0) = q332)
abbrev q117 (p0 : q5) := (q343 + wrZ (q427 p0))
abbrev q118 (p0 : q5) := (wrZ (q446 p0) - (128 : Int))
abbrev q119 (p0 : q5) := (List.getD p0.1 q347 q375)
abbrev q120 (p0 : q5) := ((lnZ p0.1) = q332)
abbrev q344 (p0 : Int × Int × Int × Int × Unit) := (p0.2.2.2.1 = q421)
abbrev q121 (p0 : Int × Int × Int × Int × Unit) := (decide (q344 p0) = true -> (decide (q344 p0) == true) = true /\ (decide (q344 p0) == true) = true /\ True)
abbrev q365 := (Kd.pair q425 q451)
abbrev q122 (p0 : q16) := (Kd.wf q365 p0.1 /\ wiZ p0.2.1 /\ wiZ p0.2.2.1 /\ True)
abbrev q346 (p0 : q1) (p1 : q1) (p2 : q16) := (wrZ (p0.1 + p1.1) + (lnZ p2.1.2))
abbrev q381 (p0 : q16) (p1 : q5) (p2 : Int × Unit -> Unit × (Int × Unit) × (List Int × Unit) × List (Int × List Int) × Unit -> Prop) (p3 : q1) (p4 : Unit × (Int × Unit) × (List Int × Unit)
  × List (Int × List Int) × Unit) (p5 : Int × Unit -> Unit × (Int × Unit) × (List Int × Unit) × List (Int × List Int) × Unit -> Nat) := ((True /\ (∀ (y_2 : q1), (wiZ y_2.1 /\ True) -> y_2.1 =
  sizeD (lnZ p0.1.2) -> (((q421 = q421 /\ q421 = q421 /\ Value.slice none q430 q430 = Value.slice none q430 q430 /\ p1.1 = p1.1 /\ p2 (wrZ (p3.1 + p0.2.1), ()) ((), (wrZ (wrZ (p3.1 + y_2.1) +
  (lnZ p0.1.2)), ()), (p4.2.2.1.1, ()), p4.2.2.2.1 ++ [(p0.1.1, p0.1.2)], ()) /\ p5 (wrZ (p3.1 + p0.2.1), ()) ((), (wrZ (wrZ (p3.1 + y_2.1) + (lnZ p0.1.2)), ()), (p4.2.2.1.1, ()), p4.2.2.2.1
  ++ [(p0.1.1, p0.1.2)], ()) < p5 p3 p4) /\ True) /\ True) /\ True) /\ True) /\ True)
abbrev q123 (p0 : q16) (p1 : q5) (p2 : Int × Unit -> Unit × (Int × Unit) × (List Int × Unit) × List (Int × List Int) × Unit -> Prop) (p3 : q1) (p4 : Unit × (Int × Unit) × (List Int × Unit)
  × List (Int × List Int) × Unit) (p5 : Int × Unit -> Unit × (Int × Unit) × (List Int × Unit) × List (Int × List Int) × Unit -> Nat) := (((True /\ (∀ (y_2 : q1), (wiZ y_2.1 /\ True) -> y_2.1
  = sizeD (lnZ p0.1.2) -> ((((q332 = q332 /\ q332 = q332 /\ Value.slice none q347 q347 = Value.slice none q347 q347 /\ p1.1 = p1.1 /\ p2 (wrZ (p3.1 + p0.2.1), ()) ((), (wrZ (q346 p3 y_2 p0),
  ()), (p4.2.2.1.1, ()), p4.2.2.2.1 ++ [(p0.1.1, p0.1.2)], ()) /\ p5 (wrZ (p3.1 + p0.2.1), ()) ((), (wrZ (q346 p3 y_2 p0), ()), (p4.2.2.1.1, ()), p4.2.2.2.1 ++ [(p0.1.1, p0.1.2)], ()) < p5 p3
  p4) /\ True) /\ True) /\ True) /\ ((((q332 = q332 /\ q332 = q332 /\ Value.slice none q347 q347 = Value.slice none q347 q347 /\ p1.1 = p1.1 /\ p2 (wrZ (p3.1 + p0.2.1), ()) ((), (wrZ (q346 p3
  y_2 p0), ()), (p4.2.2.1.1, ()), p4.2.2.2.1 ++ [(p0.1.1, p0.1.2)], ()) /\ p5 (wrZ (p3.1 + p0.2.1), ()) ((), (wrZ (q346 p3 y_2 p0), ()), (p4.2.2.1.1, ()), p4.2.2.2.1 ++ [(p0.1.1, p0.1.2)],
  ()) < p5 p3 p4) /\ True) /\ True) /\ True) /\ True) /\ True) /\ (q381 p0 p1 p2 p3 p4 p5) /\ True) /\ ((q381 p0 p1 p2 p3 p4 p5) /\ True) /\ True)
abbrev q124 (p0 : Unit × (Int × Unit) × (List Int × Unit) × List (Int × List Int) × Unit) (p1 : q5) := (decide (p0.2.1.1 = (lnZ p1.1)) = false -> (q332 <= p0.2.1.1 /\ p0.2.1.1 <= (lnZ
  p1.1)) /\ lenB (List.drop (Int.toNat p0.2.1.1) p1.1) <= (1000000000 : Nat) /\ (∀ (y : q16), (Kd.wf q365 y.1 /\ wiZ y.2.1 /\ wiZ y.2.2.1 /\ True) -> (y.1, y.2.1, y.2.2.1) = takeD (List.drop
  (Int.toNat p0.2.1.1) p1.1) -> (2 : Nat) <= (65536 : Nat) /\ ([], p0.2.1.1, y.2.2.1) = allD p1.1) /\ True)
abbrev q125 := (Kd.sl q365)
abbrev q126 := (List Int × Unit)
abbrev q127 := (Int × List Int)
abbrev q345 (p0 : q16) (p1 : q5) (p2 : Int × Unit -> Unit × (Int × Unit) × q126 × List q127 × Unit -> Prop) (p3 : q1) (p4 : Unit × (Int × Unit) × q126 × List q127 × Unit) (p5 : Int × Unit
  -> Unit × (Int × Unit) × q126 × List q127 × Unit -> Nat) := ((True /\ (∀ (y_2 : q1), (wiZ y_2.1 /\ True) -> y_2.1 = sizeD (lnZ p0.1.2) -> (((q421 = q421 /\ q421 = q421 /\ Value.slice none
  q430 q430 = Value.slice none q430 q430 /\ p1.1 = p1.1 /\ p2 (wrZ (p3.1 + p0.2.1), ()) ((), (wrZ (wrZ (p3.1 + y_2.1) + (lnZ p0.1.2)), ()), (p4.2.2.1.1, ()), p4.2.2.2.1 ++ [(p0.1.1, p0.1.2)],
  ()) /\ p5 (wrZ (p3.1 + p0.2.1), ()) ((), (wrZ (wrZ (p3.1 + y_2.1) + (lnZ p0.1.2)), ()), (p4.2.2.1.1, ()), p4.2.2.2.1 ++ [(p0.1.1, p0.1.2)], ()) < p5 p3 p4) /\ True) /\ True) /\ True) /\
  True) /\ True)
def t134 : Prop :=
  ∀ (x : q1), (q30 x) -> True -> (decide (q33 x) = true -> True) /\ (decide (q33 x) = true -> (decide (q33 x) == true) = true /\ True) /\ (decide (q33 x) = true -> (decide (q33 x) == true) =
  true) /\ ((q339 x) = true -> True) /\ (q91 x) /\ (q91 x) /\ ((q339 x) = true -> ((q339 x) == true) = true) /\ (bif bif decide (q33 x) then decide (x.1 <= (255 : Int)) else false then decide
  (wrZ (↑(BitVec.toNat (BitVec.ofInt (64 : Nat) x.1 &&& BitVec.ofInt (64 : Nat) (31 : Int))) : Int) ≠ (31 : Int)) else false) = isTagD x.1
theorem e134 : t134 = Con.vc c_der_isTag GL (mkEnv ty [] [] [] [0, 2]) {} Tryz.f134.ntmps Tryz.f134.results.toList (bodyOf Tryz.f134) := by kernel_rfl
theorem k134 : t134 := by
  unfold t134
  delta q1 q30 q33 q339 q91 wrZ wiZ q332 q421
  rintro ⟨t, _⟩ hx hp
  try dsimp +instances only [dft_int, dft_sl, dft_str]
  simp only [true_and, and_true, eq_self_iff_true, implies_true, reduceCtorEq, false_implies, true_implies, decide_eq_true_eq, decide_eq_false_iff_not, beq_self_eq_true, Bool.not_eq_true', ne_eq, Decidable.not_not, List.nil_append, List.length_singleton, List.length_cons, List.length_nil, Nat.zero_add, Nat.add_zero, Nat.mul_one, and_self, beq_iff_eq, Bool.not_true, Bool.not_false, Bool.not_eq_false', Bool.cond_false_right, Bool.and_eq_true, imp_self, Bool.not_eq_true, Bool.cond_true_left, Bool.or_eq_true]
  exact isTag_eq t
theorem h134 : c_der_isTag.ok Tryz.prog GL 134 := con_ok (H := {}) (mkEnv_ok (gl := GL) (l := []) (q := []) (d := []) _ tyOk (by kernel_rfl) trivial trivial trivial) (by kernel_rfl) (by kernel_rfl) (Eq.mp e134 k134)
def t136 : Prop :=
  ∀ (x : q1), (q30 x) -> q34 <= x.1 /\ x.1 <= (16777215 : Int) -> (decide (x.1 < q75) = true -> [IntKind.wrap IntKind.u8 x.1] = lngD x.1) /\ (decide (x.1 < q75) = false -> (decide (x.1 < (256
  : Int)) = true -> [(129 : Int), IntKind.wrap IntKind.u8 x.1] = lngD x.1) /\ (decide (x.1 < (256 : Int)) = false -> (decide (x.1 < (65536 : Int)) = true -> q34 <= q76 /\ [(130 : Int),
  IntKind.wrap IntKind.u8 (q92 x), IntKind.wrap IntKind.u8 x.1] = lngD x.1) /\ (decide (x.1 < (65536 : Int)) = false -> q34 <= (16 : Int) /\ q34 <= q76 /\ [(131 : Int), IntKind.wrap
  IntKind.u8 (Int.fdiv x.1 (q67 ^ (16 : Nat))), IntKind.wrap IntKind.u8 (q92 x), IntKind.wrap IntKind.u8 x.1] = lngD x.1)))
theorem e136 : t136 = Con.vc c_der_length GL (mkEnv ty [] [] [] [0, 2, 3, 9, 15]) {} Tryz.f136.ntmps Tryz.f136.results.toList (bodyOf Tryz.f136) := by kernel_rfl
theorem k136 : t136 := by
  unfold t136
  delta q1 q30 q34 q75 q76 q92 q67 wiZ q343 q360
  rintro ⟨n, _⟩ hx hp
  obtain ⟨h0, h1⟩ := hp
  simp only at h0 h1
  try dsimp +instances only [dft_int, dft_sl, dft_str]
  simp only [true_and, and_true, eq_self_iff_true, implies_true, reduceCtorEq, false_implies, true_implies, decide_eq_true_eq, decide_eq_false_iff_not, beq_self_eq_true, Bool.not_eq_true', ne_eq, Decidable.not_not, List.nil_append, List.length_singleton, List.length_cons, List.length_nil, Nat.zero_add, Nat.add_zero, Nat.mul_one, and_self, beq_iff_eq, Bool.not_true, Bool.not_false, Bool.not_eq_false', Bool.cond_false_right, Bool.and_eq_true, imp_self, Bool.not_eq_true, Bool.cond_true_left, Bool.or_eq_true]
  have e8 := (fdiv_pow h0).1
  have e16 := (fdiv_pow h0).2
  rw [e8, e16, wrap_u8m, wrap_u8m, wrap_u8m]
  refine ⟨fun h => ?_, fun h => ⟨fun h2 => ?_, fun h2 => ⟨fun h3 => ⟨by decide, ?_⟩, fun h3 => ⟨by decide, by decide, ?_⟩⟩⟩⟩
  . rw [lngD, if_pos h, show n % 256 = n by omega]
  . rw [lngD, if_neg h, if_pos h2, show n % 256 = n by omega]
  . rw [lngD, if_neg h, if_neg h2, if_pos h3, show n / 256 % 256 = n / 256 by omega]
  . rw [lngD, if_neg h, if_neg h2, if_neg h3, show n / 65536 % 256 = n / 65536 by omega]
theorem h136 : c_der_length.ok Tryz.prog GL 136 := con_ok (H := {}) (mkEnv_ok (gl := GL) (l := []) (q := []) (d := []) _ tyOk (by kernel_rfl) trivial trivial trivial) (by kernel_rfl) (by kernel_rfl) (Eq.mp e136 k136)
def t123 : Prop :=
  ∀ (x : q5), (q96 x) -> lenB x.1 <= q95 -> ∀ (b : Bool), (b = true -> x.1 = []) -> (b = true -> [] = x.1) /\ (b = false -> q63 < q36 /\ (q63 + List.length x.1) * q36 <= q94 /\ q63 +
  List.length x.1 <= q93 /\ [] ++ x.1 = x.1)
theorem e123 : t123 = Con.vc c_slices_Clone_byte_byte GL (mkEnv ty [] [] [] [0, 2, 4]) {} Tryz.f123.ntmps Tryz.f123.results.toList (bodyOf Tryz.f123) := by kernel_rfl
theorem k123 : t123 := by
  unfold t123
  delta q5 q96 q95 q63 q36 q94 q93 wyZ
  rintro ⟨l, _⟩ hx hp
  have hp : l.length ≤ 1000000000 := hp
  try dsimp +instances only [dft_int, dft_sl, dft_str]
  simp only [true_and, and_true, eq_self_iff_true, implies_true, reduceCtorEq, false_implies, true_implies, decide_eq_true_eq, decide_eq_false_iff_not, beq_self_eq_true, Bool.not_eq_true', ne_eq, Decidable.not_not, List.nil_append, List.length_singleton, List.length_cons, List.length_nil, Nat.zero_add, Nat.add_zero, Nat.mul_one, and_self, beq_iff_eq, Bool.not_true, Bool.not_false, Bool.not_eq_false', Bool.cond_false_right, Bool.and_eq_true, imp_self, Bool.not_eq_true, Bool.cond_true_left, Bool.or_eq_true]
  intro b hb
  exact ⟨fun h => (hb h).symm, fun _ => ⟨by decide, by omega, by omega⟩⟩
theorem h123 : c_slices_Clone_byte_byte.ok Tryz.prog GL 123 := con_ok (H := {}) (mkEnv_ok (gl := GL) (l := []) (q := []) (d := []) _ tyOk (by kernel_rfl) trivial trivial trivial) (by kernel_rfl) (by kernel_rfl) (Eq.mp e123 k123)
noncomputable def i167 : CallSem := cutSem <| vcFn (mkEnv ty [] [] [] [0, 1, 4, 6, 16]) {} Tryz.f167.ntmps Tryz.f167.results.toList (bodyOf Tryz.f167)
theorem i167_ok : CallOk Tryz.prog GL 167 i167 := cut_ok <| inl_ok {} (mkEnv_ok (gl := GL) (l := []) (q := []) (d := []) _ tyOk (by kernel_rfl) trivial trivial trivial) (by kernel_rfl) (by kernel_rfl)
def t135 : Prop :=
  ∀ (x : q11), (q100 x) -> lenF x.1 <= q95 -> ∃ (I : q12), ∃ (μ : q13), ((lnZ x.1) = (lnZ x.1) /\ x.1 = x.1 /\ Value.slice none q63 q63 = Value.slice none q63 q63 /\ x.1 = x.1 /\ I (q34, q34,
  ()) ()) /\ ∀ (y : q6) (z : Unit), (q101 y) -> True -> I y z -> (decide (y.1 < (lnZ x.1)) = true -> (q34 <= y.1 /\ y.1 < (lnZ x.1)) /\ (decide (wrZ (q99 y x) < q34) = true -> False) /\
  (decide (wrZ (q99 y x) < q34) = false -> (lnZ x.1) = (lnZ x.1) /\ x.1 = x.1 /\ Value.slice none q63 q63 = Value.slice none q63 q63 /\ x.1 = x.1 /\ I (wrZ (y.1 + q334), wrZ (q99 y x), ()) ()
  /\ μ (wrZ (y.1 + q334), wrZ (q99 y x), ()) () < μ y z)) /\ (decide (y.1 < (lnZ x.1)) = false -> (decide (y.2.1 < q34) = true -> False) /\ (decide (y.2.1 < q34) = false -> (decide (q34 < wrZ
  (q340 y)) = true -> (q34 <= q34 /\ q34 <= (↑q63 : Int)) /\ q34 < wrZ (q340 y) /\ wrZ (q340 y) <= (1000000000 : Int) /\ (q34 <= q34 /\ q34 <= (lnZ (q98 y))) /\ q63 = q63 /\ ∃ (I : q14), ∃ (μ
  : q15), ((lnZ x.1) = (lnZ x.1) /\ x.1 = x.1 /\ Value.bool false = Value.bool false /\ y.1 = y.1 /\ (lnZ x.1) = (lnZ x.1) /\ x.1 = x.1 /\ y.2.1 = y.2.1 /\ Value.slice none q63 q63 =
  Value.slice none q63 q63 /\ x.1 = x.1 /\ I (q34, ()) (List.take (q63 - q63) (q98 y), ())) /\ ∀ (y_1 : q1) (z : q5), (q30 y_1) -> (q96 z) -> I y_1 z -> (q97 y_1 x z y I μ) /\ (decide (y_1.1
  < (lnZ x.1)) = false -> z.1 = List.flatten x.1)) /\ (decide (q34 < wrZ (q340 y)) = false -> ∃ (I : q14), ∃ (μ : q15), ((lnZ x.1) = (lnZ x.1) /\ x.1 = x.1 /\ Value.bool false = Value.bool
  false /\ y.1 = y.1 /\ (lnZ x.1) = (lnZ x.1) /\ x.1 = x.1 /\ y.2.1 = y.2.1 /\ Value.slice none q63 q63 = Value.slice none q63 q63 /\ x.1 = x.1 /\ I (q34, ()) ([], ())) /\ ∀ (y_1 : q1) (z :
  q5), (q30 y_1) -> (q96 z) -> I y_1 z -> (q97 y_1 x z y I μ) /\ (decide (y_1.1 < (lnZ x.1)) = false -> z.1 = List.flatten x.1))))
theorem e135 : t135 = Con.vc c_slices_Concat_byte_byte GL (mkEnv ty [(167, i167)] [] [] [0, 2, 3, 5, 6, 8, 9, 10, 11, 12, 20, 25, 26, 27, 28]) {} Tryz.f135.ntmps Tryz.f135.results.toList (bodyOf Tryz.f135) := by kernel_rfl
theorem k135 : t135 := by
  unfold t135
  delta q11 q100 q95 q12 q13 lnZ q63 q34 q6 q101 wrZ q99 q334 q340 q98 q14 q15 q1 q5 q30 q96 q97 q341 wiZ q376 q421 q375 wyZ q332 q347 q416 q330 q423 q422 q451 q454
  rintro ⟨xs, _⟩ hx hp
  have hp : xs.flatten.length ≤ 1000000000 := hp
  have hl : xs.length ≤ 9223372036854775807 := hx.1.1
  try dsimp +instances only [dft_int, dft_sl, dft_str]
  simp only [true_and, and_true, eq_self_iff_true, implies_true, reduceCtorEq, false_implies, true_implies, decide_eq_true_eq, decide_eq_false_iff_not, beq_self_eq_true, Bool.not_eq_true', ne_eq, Decidable.not_not, List.nil_append, List.length_singleton, List.length_cons, List.length_nil, Nat.zero_add, Nat.add_zero, Nat.mul_one, and_self, beq_iff_eq, Bool.not_true, Bool.not_false, Bool.not_eq_false', Bool.cond_false_right, Bool.and_eq_true, imp_self, Bool.not_eq_true, Bool.cond_true_left, Bool.or_eq_true]
  refine ⟨fun y z => 0 ≤ y.1 ∧ y.1 ≤ xs.length ∧ y.2.1 = ((xs.take y.1.toNat).flatten.length : Int), fun y z => xs.length - y.1.toNat, ⟨Int.le_refl 0, by simp only; omega, by simp⟩, ?_⟩
  rintro ⟨i, s, _⟩ z hy ⟨h0, h1, h2⟩
  simp only at h0 h1 h2 ⊢
  have hs := flat_bound xs i.toNat
  refine ⟨fun hlt => ?_, fun hge => ⟨fun h => by omega, fun _ => ⟨fun hpos => ?_, fun _ => flat_loop xs hl hp [] rfl⟩⟩⟩
  . have e := take_flat xs i.toNat (by omega)
    have hfl := flat_bound xs (i.toNat + 1)
    rw [e, List.length_append] at hfl
    have hw : IntKind.wrap .i64 (i + 1) = i + 1 := wrapM _ (by omega) (by omega)
    have hw2 : IntKind.wrap .i64 (s + ((xs.getD i.toNat []).length : Int)) = s + ((xs.getD i.toNat []).length : Int) := wrapK _ (by omega) (by omega)
    rw [hw, hw2]
    refine ⟨⟨h0, hlt⟩, fun h => by omega, fun _ => ⟨⟨by omega, by omega, ?_⟩, by omega⟩⟩
    rw [show (i + 1).toNat = i.toNat + 1 by omega, e, List.length_append]
    omega
  . have hw3 : IntKind.wrap .i64 (s - IntKind.wrap .i64 (0 - 0)) = s := by rw [show IntKind.wrap .i64 (0 - 0) = 0 by decide, wrapK _ (by omega) (by omega)]; omega
    rw [hw3] at hpos ⊢
    exact ⟨⟨by decide, by decide⟩, hpos, by omega, ⟨by decide, by omega⟩, flat_loop xs hl hp _ (by simp)⟩
theorem h135 : c_slices_Concat_byte_byte.ok Tryz.prog GL 135 := con_ok (H := {}) (mkEnv_ok (gl := GL) (l := [(167, i167)]) (q := []) (d := []) _ tyOk (by kernel_rfl) ⟨i167_ok, trivial⟩ trivial trivial) (by kernel_rfl) (by kernel_rfl) (Eq.mp e135 k135)
def t95 : Prop :=
  ∀ (x : List Int × Int × List (List Int) × Unit), (wyZ x.1 /\ wiZ x.2.1 /\ Kd.wf q341 x.2.2.1 /\ True) -> lenB x.1 <= (900000000 : Nat) -> True /\ (∀ (y : q4), (q41 y) -> y.1 = isTagD x.2.1
  -> ((!y.1) = true -> ([], q67) = PutD x.1 x.2.1 (List.flatten x.2.2.1)) /\ ((!y.1) = false -> ∃ (I : Int × Int × Int × Unit -> List Int × Unit -> Prop), ∃ (μ : Int × Int × Int × Unit ->
  List Int × Unit -> Nat), ((lnZ x.2.2.1) = (lnZ x.2.2.1) /\ x.2.2.1 = x.2.2.1 /\ Value.bool false = Value.bool false /\ x.1 = x.1 /\ x.2.1 = x.2.1 /\ x.2.2.1 = x.2.2.1 /\ I (q34, q34, q34,
  ()) ([], ())) /\ ∀ (y : Int × Int × Int × Unit) (z : q5), (wiZ y.1 /\ wiZ y.2.1 /\ wiZ y.2.2.1 /\ True) -> (q96 z) -> I y z -> (decide (y.1 < (lnZ x.2.2.1)) = true -> (q34 <= y.1 /\ y.1 <
  (lnZ x.2.2.1)) /\ (decide (wrZ ((16777215 : Int) - y.2.1) < (q102 x y)) = true -> ([], (3 : Int)) = PutD x.1 x.2.1 (List.flatten x.2.2.1)) /\ (decide (wrZ ((16777215 : Int) - y.2.1) < (q102
  x y)) = false -> (lnZ x.2.2.1) = (lnZ x.2.2.1) /\ x.2.2.1 = x.2.2.1 /\ Value.bool false = Value.bool false /\ x.1 = x.1 /\ x.2.1 = x.2.1 /\ x.2.2.1 = x.2.2.1 /\ I (wrZ (y.1 + q62), wrZ
  (y.2.1 + (q102 x y)), y.2.2.1, ()) (z.1, ()) /\ μ (wrZ (y.1 + q62), wrZ (y.2.1 + (q102 x y)), y.2.2.1, ()) (z.1, ()) < μ y z)) /\ (decide (y.1 < (lnZ x.2.2.1)) = false -> (q34 <= y.2.1 /\
  y.2.1 <= (16777215 : Int)) /\ (∀ (y_1 : q5), (q96 y_1) -> y_1.1 = lngD y.2.1 -> lenF [x.1, [IntKind.wrap IntKind.u8 x.2.1], y_1.1] <= q95 /\ (∀ (y : q5), (q96 y) -> y.1 = List.flatten [x.1,
  [IntKind.wrap IntKind.u8 x.2.1], y_1.1] -> lenF x.2.2.1 <= q95 /\ (∀ (y_2 : q5), (q96 y_2) -> y_2.1 = List.flatten x.2.2.1 -> lenF [y.1, y_2.1] <= q95 /\ (∀ (y_3 : q5), (q96 y_3) -> y_3.1 =
  List.flatten [y.1, y_2.1] -> (y_3.1, q34) = PutD x.1 x.2.1 (List.flatten x.2.2.1)) /\ True) /\ True) /\ True) /\ True))) /\ True
theorem e95 : t95 = Con.vc c_der_Put GL (mkEnv ty [(134, conSem c_der_isTag), (136, conSem c_der_length), (135, conSem c_slices_Concat_byte_byte)] [] [] [0, 1, 2, 6, 7, 8, 10, 11, 14, 15, 16, 17, 18, 25]) {} Tryz.f95.ntmps Tryz.f95.results.toList (bodyOf Tryz.f95) := by kernel_rfl
theorem k95 : t95 := by
  unfold t95
  delta wyZ wiZ q341 q4 q41 q67 lnZ q34 q5 q96 wrZ q102 q62 q95 q451 wbZ q376
  rintro ⟨b, t, cs, _⟩ hx hp
  have hp : b.length ≤ 900000000 := hp
  have hcl : cs.length ≤ 9223372036854775807 := hx.2.2.1.1
  try dsimp +instances only [dft_int, dft_sl, dft_str]
  simp only [true_and, and_true, eq_self_iff_true, implies_true, reduceCtorEq, false_implies, true_implies, decide_eq_true_eq, decide_eq_false_iff_not, beq_self_eq_true, Bool.not_eq_true', ne_eq, Decidable.not_not, List.nil_append, List.length_singleton, List.length_cons, List.length_nil, Nat.zero_add, Nat.add_zero, Nat.mul_one, and_self, beq_iff_eq, Bool.not_true, Bool.not_false, Bool.not_eq_false', Bool.cond_false_right, Bool.and_eq_true, imp_self, Bool.not_eq_true, Bool.cond_true_left, Bool.or_eq_true]
  rintro ⟨q, _⟩ _ eq
  simp only at eq ⊢
  subst eq
  refine ⟨fun h => by rw [PutD, if_pos h], fun h => ?_⟩
  refine ⟨fun y _ => 0 ≤ y.1 ∧ y.1 ≤ cs.length ∧ y.2.1 = ((cs.take y.1.toNat).flatten.length : Int) ∧ y.2.1 ≤ 16777215, fun y _ => ((cs.length : Int) - y.1).toNat, ⟨Int.le_refl 0, by simp only; omega, by simp, by decide⟩, ?_⟩
  rintro ⟨i, s, k, _⟩ _ _ _ ⟨h0, h1, h2, h3⟩
  simp only at h0 h1 h2 h3 ⊢
  refine ⟨fun hlt => ?_, fun hge => ?_⟩
  . have e := take_flat cs i.toNat (by omega)
    have hl := flat_bound cs (i.toNat + 1)
    rw [e, List.length_append] at hl
    rw [wrapK (16777215 - s) (by omega) (by omega), wrapM (i + 1) (by omega) (by omega)]
    refine ⟨⟨h0, hlt⟩, fun hb => ?_, fun hb => ?_⟩
    . rw [PutD, if_neg (by rw [h]; decide), if_pos (by omega)]
    . rw [wrapK (s + ((cs.getD i.toNat []).length : Int)) (by omega) (by omega)]
      refine ⟨⟨by omega, by omega, ?_, by omega⟩, by omega⟩
      rw [show (i + 1).toNat = i.toNat + 1 by omega, e, List.length_append]
      omega
  . have hs : s = (cs.flatten.length : Int) := by rw [h2, List.take_of_length_le (by omega)]
    have hll := lng_len (n := s)
    refine ⟨⟨by omega, h3⟩, ?_⟩
    rintro ⟨l, _⟩ _ el
    simp only at el ⊢
    subst el
    refine ⟨by simp only [lenF, List.flatten_cons, List.flatten_nil, List.length_append, List.length_cons, List.length_nil]; omega, ?_⟩
    rintro ⟨o, _⟩ _ eo
    simp only at eo ⊢
    refine ⟨by rw [lenF]; omega, ?_⟩
    rintro ⟨c, _⟩ _ ec
    simp only at ec ⊢
    have hol : o.length = b.length + 1 + (lngD s).length := by rw [eo]; simp; omega
    refine ⟨by simp only [lenF, List.flatten_cons, List.flatten_nil, List.length_append, List.length_nil]; rw [ec]; omega, ?_⟩
    rintro ⟨r, _⟩ _ er
    simp only at er ⊢
    obtain ⟨t0, t1, _⟩ := tag_range h
    rw [PutD, if_neg (by rw [h]; decide), if_neg (by omega), er, eo, ec, wrap8 t t0 t1, putB]
    simp only
    rw [← hs]
    simp
theorem h95 : c_der_Put.ok Tryz.prog GL 95 := con_ok (H := {}) (mkEnv_ok (gl := GL) (l := [(134, conSem c_der_isTag), (136, conSem c_der_length), (135, conSem c_slices_Concat_byte_byte)]) (q := []) (d := []) _ tyOk (by kernel_rfl) ⟨h134.call, h136.call, h135.call, trivial⟩ trivial trivial) (by kernel_rfl) (by kernel_rfl) (Eq.mp e95 k95)
def t158 : Prop :=
  ∀ (x : q5), (q96 x) -> lenB x.1 <= q95 -> (decide (q120 x) = true -> (q34, q34, q34, (10 : Int)) = headK x.1) /\ (decide (q120 x) = false -> (q58 x) /\ True /\ (∀ (y : q4), (q41 y) -> y.1 =
  isTagD (wrZ (q119 x)) -> ((!y.1) = true -> (q34, q34, q34, (11 : Int)) = headK x.1) /\ ((!y.1) = false -> (decide ((lnZ x.1) = q62) = true -> (q34, q34, q34, (10 : Int)) = headK x.1) /\
  (decide ((lnZ x.1) = q62) = false -> (q59 x) /\ (decide (wrZ (q118 x) < q34) = true -> (q58 x) /\ (q59 x) /\ (wrZ (q119 x), q67, wrZ (q446 x), q34) = headK x.1) /\ (decide (wrZ (q118 x) <
  q34) = false -> (decide (q116 x) = false -> True) /\ (decide (q116 x) = false -> (q114 x) = true /\ True) /\ (decide (q116 x) = false -> (q114 x) = true) /\ (q109 x) /\ (q105 x) /\ (q105 x)
  /\ (q109 x) /\ ((q106 x) = true -> decide (q343 < (lnZ x.1)) = true -> True) /\ ((q106 x) = true -> decide (q343 < (lnZ x.1)) = true -> (q104 x) = true /\ (q34 <= q67 /\ q67 < (lnZ x.1)) /\
  True) /\ (q103 x) /\ (q103 x) /\ ((q110 x) = false -> (q106 x) = true /\ (decide (q343 < (lnZ x.1)) = true -> (q104 x) = true) /\ True) /\ ((q110 x) = false -> (q342 x) = true) /\ ((q107 x)
  = true -> (q34, q34, q34, (12 : Int)) = headK x.1) /\ ((q107 x) = false -> (decide (q115 x) = true -> (q34, q34, q34, (10 : Int)) = headK x.1) /\ (decide (q115 x) = false -> (q34 <= q67 /\
  q67 <= wrZ (q117 x) /\ wrZ (q117 x) <= (lnZ x.1)) /\ ∃ (I : q12), ∃ (μ : q13), ((q112 x) = (q112 x) /\ List.drop q65 (q113 x) = List.drop q65 (q113 x) /\ Value.bool false = Value.bool false
  /\ Value.bool false = Value.bool false /\ Value.bool false = Value.bool false /\ wrZ (q118 x) = wrZ (q118 x) /\ Value.bool false = Value.bool false /\ Value.bool false = Value.bool false /\
  Value.bool false = Value.bool false /\ q34 = q34 /\ q34 = q34 /\ q34 = q34 /\ x.1 = x.1 /\ I (q34, q34, ()) ()) /\ ∀ (y : q6) (z : Unit), (q101 y) -> True -> I y z -> (decide (q111 y x) =
  true -> (q34 <= y.1 /\ y.1 < (q112 x)) /\ q34 <= q76 /\ (q112 x) = (q112 x) /\ List.drop q65 (q113 x) = List.drop q65 (q113 x) /\ Value.bool false = Value.bool false /\ Value.bool false =
  Value.bool false /\ Value.bool false = Value.bool false /\ wrZ (q118 x) = wrZ (q118 x) /\ Value.bool false = Value.bool false /\ Value.bool false = Value.bool false /\ Value.bool false =
  Value.bool false /\ q34 = q34 /\ q34 = q34 /\ q34 = q34 /\ x.1 = x.1 /\ I (wrZ (y.1 + q334), wrZ (q108 y x), ()) () /\ μ (wrZ (y.1 + q334), wrZ (q108 y x), ()) () < μ y z) /\ (decide (q111
  y x) = false -> (decide (y.2.1 < q75) = true -> (q34, q34, q34, (12 : Int)) = headK x.1) /\ (decide (y.2.1 < q75) = false -> (q58 x) /\ (wrZ (q119 x), wrZ (q117 x), y.2.1, q34) = headK
  x.1)))))))) /\ True)
theorem e158 : t158 = Con.vc c_der_head GL (mkEnv ty [(134, conSem c_der_isTag)] [] [] [0, 2, 3, 4, 5, 6, 8, 9, 13, 20, 29, 40, 58, 67, 68, 69, 70, 80]) {} Tryz.f158.ntmps Tryz.f158.results.toList (bodyOf Tryz.f158) := by kernel_rfl
theorem k158 : t158 := by
  unfold t158
  delta q5 q96 q95 q120 q34 q58 q4 q41 wrZ q119 lnZ q62 q59 q118 q67 q446 q116 q114 q109 q105 q106 q343 q104 q103 q110 q342 q107 q115 q117 q12 q13 q112 q65 q113 q6 q101 q111 q76 q334 q108 q75 wyZ q332 wbZ q347 q375 q427 q378 q377 q379 q421 q380 q426 wiZ q360 q454
  rintro ⟨b, _⟩ hx hp
  have hp : b.length ≤ 1000000000 := hp
  have hb : Bys b := sl_bys hx.1
  try dsimp +instances only [dft_int, dft_sl, dft_str]
  simp only [true_and, and_true, eq_self_iff_true, implies_true, reduceCtorEq, false_implies, true_implies, decide_eq_true_eq, decide_eq_false_iff_not, beq_self_eq_true, Bool.not_eq_true', ne_eq, Decidable.not_not, List.nil_append, List.length_singleton, List.length_cons, List.length_nil, Nat.zero_add, Nat.add_zero, Nat.mul_one, and_self, beq_iff_eq, Bool.not_true, Bool.not_false, Bool.not_eq_false', Bool.cond_false_right, Bool.and_eq_true, imp_self, Bool.not_eq_true, Bool.cond_true_left, Bool.or_eq_true]
  have b0 := bys_get hb 0
  have b1 := bys_get hb 1
  rw [wrapK (b.getD 0 0) (by omega) (by omega), wrapK (b.getD 1 0) (by omega) (by omega), wrapK (b.getD 1 0 - 128) (by omega) (by omega), wrapK (2 + (b.getD 1 0 - 128)) (by omega) (by omega)]
  have hnil : b = [] ↔ (b.length : Int) = 0 := ⟨fun h => by rw [h]; rfl, fun h => List.eq_nil_of_length_eq_zero (by omega)⟩
  unfold headK
  refine ⟨fun h => by rw [if_pos (hnil.2 h)], fun h => ⟨⟨by decide, by omega⟩, ?_⟩⟩
  rw [if_neg (fun e => h (hnil.1 e))]
  rintro ⟨q, _⟩ _ eq
  simp only at eq ⊢
  subst eq
  refine ⟨fun h1 => by rw [if_pos h1], fun h1 => ?_⟩
  rw [if_neg (by rw [h1]; decide)]
  refine ⟨fun h2 => by rw [if_pos (by omega)], fun h2 => ⟨⟨by decide, by omega⟩, fun h3 => ⟨⟨by decide, by omega⟩, ⟨by decide, by omega⟩, ?_⟩, fun h3 => ?_⟩⟩
  . rw [if_neg (by omega), if_pos (by omega)]
  rw [if_neg (by omega), if_neg (by omega)]
  refine ⟨fun g1 g2 => ⟨⟨g1, g2⟩, by decide, by omega⟩, fun g1 g2 => ⟨g1, g2⟩, fun g1 g2 => ⟨g1, g2⟩, fun g1 => ⟨g1, fun g2 => ⟨g1, g2⟩⟩, fun h4 => by rw [if_pos (by omega)], fun h4 => ?_⟩
  have h4' : ¬ (b.getD 1 0 = 128 ∨ 131 < b.getD 1 0 ∨ (2 < b.length ∧ b.getD 2 0 = 0)) := by
    simp only [Bool.or_eq_false_iff, Bool.and_eq_false_iff, decide_eq_false_iff_not] at h4
    omega
  rw [if_neg h4']
  refine ⟨fun h5 => by rw [if_pos h5], fun h5 => ⟨⟨by decide, by omega, by omega⟩, ?_⟩⟩
  rw [if_neg h5]
  have hsl : (b.take (2 + (b.getD 1 0 - 128)).toNat).drop 2 = (b.drop 2).take (b.getD 1 0 - 128).toNat := by
    rw [List.drop_take]
    congr 1
    omega
  rw [hsl]
  have hbl : Bys ((b.drop 2).take (b.getD 1 0 - 128).toNat) := bys_take (bys_drop hb 2) _
  have hll : ((b.drop 2).take (b.getD 1 0 - 128).toNat).length ≤ 3 := by rw [List.length_take]; omega
  generalize (b.drop 2).take (b.getD 1 0 - 128).toNat = l at hbl hll
  refine ⟨fun y _ => 0 ≤ y.1 ∧ y.1 ≤ l.length ∧ y.2.1 = numB (l.take y.1.toNat), fun y _ => ((l.length : Int) - y.1).toNat, ⟨Int.le_refl 0, by simp only; omega, rfl⟩, ?_⟩
  rintro ⟨i, n, _⟩ _ _ ⟨i0, i1, en⟩
  simp only at i0 i1 en ⊢
  refine ⟨fun hlt => ⟨⟨i0, hlt⟩, by decide, ?_⟩, fun hge => ?_⟩
  . have hnb := num_bound hbl (j := i.toNat) (by omega)
    rw [← en] at hnb
    rw [wrapK (i + 1) (by omega) (by omega), or8 (bys_get hbl _) hnb]
    refine ⟨⟨by omega, by omega, ?_⟩, by omega⟩
    rw [show (i + 1).toNat = i.toNat + 1 by omega, take_snoc l _ (by omega), num_snoc, en]
  . rw [List.take_of_length_le (by omega)] at en
    rw [en]
    exact ⟨fun h6 => by rw [if_pos h6], fun h6 => ⟨⟨by decide, by omega⟩, by rw [if_neg h6]⟩⟩
theorem h158 : c_der_head.ok Tryz.prog GL 158 := con_ok (H := {}) (mkEnv_ok (gl := GL) (l := [(134, conSem c_der_isTag)]) (q := []) (d := []) _ tyOk (by kernel_rfl) ⟨h134.call, trivial⟩ trivial trivial) (by kernel_rfl) (by kernel_rfl) (Eq.mp e158 k158)
def t119 : Prop :=
  ∀ (x : q5), (q96 x) -> lenB x.1 <= q95 -> q65 <= q61 /\ lenB x.1 <= q95 /\ (∀ (y : Int × Int × Int × Int × Unit), (wiZ y.1 /\ wiZ y.2.1 /\ wiZ y.2.2.1 /\ wiZ y.2.2.2.1 /\ True) -> (y.1,
  y.2.1, y.2.2.1, y.2.2.2.1) = headK x.1 -> (decide (q344 y) = true -> True) /\ (decide (q344 y) = true -> (decide (q344 y) == true) = true /\ True) /\ (decide (q344 y) = true -> True) /\
  (q121 y) /\ (decide (q344 y) = true -> True) /\ (q121 y) /\ (decide (q344 y) = true -> (decide (q344 y) == true) = true) /\ ((bif decide (q344 y) then decide (wrZ ((lnZ x.1) - y.2.1) <
  y.2.2.1) else false) = true -> (decide ((10 : Int) ≠ q34) = true -> ((q34, []), q34, (10 : Int)) = takeD x.1) /\ (decide ((10 : Int) ≠ q34) = false -> (q34 <= y.2.1 /\ y.2.1 <= wrZ (y.2.1 +
  y.2.2.1) /\ wrZ (y.2.1 + y.2.2.1) <= (lnZ x.1)) /\ lenB (List.drop (Int.toNat y.2.1) (List.take (Int.toNat (wrZ (y.2.1 + y.2.2.1))) x.1)) <= q95 /\ (∀ (y_1 : q5), (q96 y_1) -> y_1.1 =
  List.drop (Int.toNat y.2.1) (List.take (Int.toNat (wrZ (y.2.1 + y.2.2.1))) x.1) -> ((y.1, y_1.1), wrZ (y.2.1 + y.2.2.1), q34) = takeD x.1) /\ True)) /\ ((bif decide (q344 y) then decide
  (wrZ ((lnZ x.1) - y.2.1) < y.2.2.1) else false) = false -> (decide (y.2.2.2.1 ≠ q34) = true -> ((q34, []), q34, y.2.2.2.1) = takeD x.1) /\ (decide (y.2.2.2.1 ≠ q34) = false -> (q34 <= y.2.1
  /\ y.2.1 <= wrZ (y.2.1 + y.2.2.1) /\ wrZ (y.2.1 + y.2.2.1) <= (lnZ x.1)) /\ lenB (List.drop (Int.toNat y.2.1) (List.take (Int.toNat (wrZ (y.2.1 + y.2.2.1))) x.1)) <= q95 /\ (∀ (y_1 : q5),
  (q96 y_1) -> y_1.1 = List.drop (Int.toNat y.2.1) (List.take (Int.toNat (wrZ (y.2.1 + y.2.2.1))) x.1) -> ((y.1, y_1.1), wrZ (y.2.1 + y.2.2.1), q34) = takeD x.1) /\ True))) /\ True
theorem e119 : t119 = Con.vc c_der_Take GL (mkEnv ty [(158, conSem c_der_head), (123, conSem c_slices_Clone_byte_byte)] [] [] [0, 2, 3, 4, 5, 6, 7, 8, 25, 27]) {} Tryz.f119.ntmps Tryz.f119.results.toList (bodyOf Tryz.f119) := by kernel_rfl
theorem k119 : t119 := by
  unfold t119
  delta q5 q96 q95 q65 q61 wiZ q344 q121 wrZ lnZ q34 wyZ q421
  rintro ⟨b, _⟩ hx hp
  have hp : b.length ≤ 1000000000 := hp
  have hb : Bys b := sl_bys hx.1
  try dsimp +instances only [dft_int, dft_sl, dft_str]
  simp only [true_and, and_true, eq_self_iff_true, implies_true, reduceCtorEq, false_implies, true_implies, decide_eq_true_eq, decide_eq_false_iff_not, beq_self_eq_true, Bool.not_eq_true', ne_eq, Decidable.not_not, List.nil_append, List.length_singleton, List.length_cons, List.length_nil, Nat.zero_add, Nat.add_zero, Nat.mul_one, and_self, beq_iff_eq, Bool.not_true, Bool.not_false, Bool.not_eq_false', Bool.cond_false_right, Bool.and_eq_true, imp_self, Bool.not_eq_true, Bool.cond_true_left, Bool.or_eq_true]
  refine ⟨by decide, hp, ?_⟩
  rintro ⟨t, f, n, e, _⟩ _ eh
  simp only at eh ⊢
  have k1 : (headK b).1 = t := by rw [← eh]
  have k2 : (headK b).2.1 = f := by rw [← eh]
  have k3 : (headK b).2.2.1 = n := by rw [← eh]
  have k4 : (headK b).2.2.2 = e := by rw [← eh]
  have hT : takeD b = if e ≠ 0 then ((0, []), 0, e) else if (b.length : Int) - f < n then ((0, []), 0, 10) else ((t, (b.drop f.toNat).take n.toNat), f + n, 0) := by rw [takeD, k1, k2, k3, k4]
  have hok : e = 0 → 2 ≤ f ∧ f ≤ 5 ∧ f ≤ b.length ∧ 0 ≤ n ∧ n ≤ 16777215 := fun h => by
    have := head_ok hb (by rw [k4]; exact h)
    rw [k2, k3] at this
    exact ⟨this.1, this.2.1, this.2.2.1, this.2.2.2.1, this.2.2.2.2.1⟩
  refine ⟨fun h => ⟨fun _ => ?_, fun h10 => by cases h10⟩, fun h => ⟨fun he => by rw [hT, if_pos he], fun he => ?_⟩⟩
  . obtain ⟨h1, h2⟩ := h
    have := hok h1
    rw [wrapK _ (by omega) (by omega)] at h2
    rw [hT, if_neg (by omega), if_pos h2]
  . have hk := hok he
    simp only [Bool.and_eq_false_iff, decide_eq_false_iff_not] at h
    have h := h.resolve_left (fun h => h he)
    rw [wrapK _ (by omega) (by omega)] at h
    rw [wrapK (f + n) (by omega) (by omega)]
    refine ⟨⟨by omega, by omega, by omega⟩, by rw [lenB, List.length_drop, List.length_take]; omega, ?_⟩
    rintro ⟨c, _⟩ _ ec
    simp only at ec ⊢
    rw [hT, if_neg (by omega), if_neg h, ec, List.drop_take, show (f + n).toNat - f.toNat = n.toNat by omega]
theorem h119 : c_der_Take.ok Tryz.prog GL 119 := con_ok (H := {}) (mkEnv_ok (gl := GL) (l := [(158, conSem c_der_head), (123, conSem c_slices_Clone_byte_byte)]) (q := []) (d := []) _ tyOk (by kernel_rfl) ⟨h158.call, h123.call, trivial⟩ trivial trivial) (by kernel_rfl) (by kernel_rfl) (Eq.mp e119 k119)
def t102 : Prop :=
  ∀ (x : q5), (q96 x) -> lenB x.1 <= q95 -> q65 <= q61 /\ lenB x.1 <= q95 /\ (∀ (y : q16), (q122 y) -> (y.1, y.2.1, y.2.2.1) = takeD x.1 -> q65 <= q61 /\ (decide (y.2.2.1 = q34) = true ->
  True) /\ (decide (y.2.2.1 = q34) = true -> True) /\ (decide (y.2.2.1 = q34) = true -> (decide (y.2.2.1 = q34) == true) = true /\ True) /\ (decide (y.2.2.1 = q34) = true -> (decide (y.2.2.1
  = q34) == true) = true /\ (decide (y.2.2.1 = q34) == true) = true /\ True) /\ (decide (y.2.2.1 = q34) = true -> (decide (y.2.2.1 = q34) == true) = true) /\ ((bif decide (y.2.2.1 = q34) then
  decide (y.2.1 < (lnZ x.1)) else false) = true -> ((q34, []), (13 : Int)) = oneD x.1) /\ ((bif decide (y.2.2.1 = q34) then decide (y.2.1 < (lnZ x.1)) else false) = false -> ((y.1.1, y.1.2),
  y.2.2.1) = oneD x.1)) /\ True
theorem e102 : t102 = Con.vc c_der_One GL (mkEnv ty [(119, conSem c_der_Take)] [] [] [0, 2, 3, 4, 5, 6, 20]) {} Tryz.f102.ntmps Tryz.f102.results.toList (bodyOf Tryz.f102) := by kernel_rfl
theorem k102 : t102 := by
  unfold t102
  delta q5 q96 q95 q65 q61 q16 q122 q34 lnZ wyZ q365 wiZ q425 q451
  rintro ⟨b, _⟩ hx hp
  have hp : b.length ≤ 1000000000 := hp
  try dsimp +instances only [dft_int, dft_sl, dft_str]
  simp only [true_and, and_true, eq_self_iff_true, implies_true, reduceCtorEq, false_implies, true_implies, decide_eq_true_eq, decide_eq_false_iff_not, beq_self_eq_true, Bool.not_eq_true', ne_eq, Decidable.not_not, List.nil_append, List.length_singleton, List.length_cons, List.length_nil, Nat.zero_add, Nat.add_zero, Nat.mul_one, and_self, beq_iff_eq, Bool.not_true, Bool.not_false, Bool.not_eq_false', Bool.cond_false_right, Bool.and_eq_true, imp_self, Bool.not_eq_true, Bool.cond_true_left, Bool.or_eq_true]
  refine ⟨by decide, hp, ?_⟩
  rintro ⟨⟨t, c⟩, n, e, _⟩ _ eT
  simp only at eT ⊢
  refine ⟨by decide, fun h => ?_, fun h => ?_⟩
  . rw [oneD, ← eT, if_pos h]
  . rw [oneD, ← eT, if_neg (fun hh => by simp only [Bool.and_eq_false_iff, decide_eq_false_iff_not] at h; exact h.elim (fun h => h hh.1) (fun h => h hh.2))]
theorem h102 : c_der_One.ok Tryz.prog GL 102 := con_ok (H := {}) (mkEnv_ok (gl := GL) (l := [(119, conSem c_der_Take)]) (q := []) (d := []) _ tyOk (by kernel_rfl) ⟨h119.call, trivial⟩ trivial trivial) (by kernel_rfl) (by kernel_rfl) (Eq.mp e102 k102)
def t118 : Prop :=
  ∀ (x : q1), (q30 x) -> True -> (decide (x.1 < q34) = false -> True) /\ (decide (x.1 < q34) = false -> (decide (x.1 < q34) == false) = true /\ True) /\ (decide (x.1 < q34) = false -> (decide
  (x.1 < q34) == false) = true) /\ ((bif decide (x.1 < q34) then true else decide ((16777215 : Int) < x.1)) = true -> q34 = sizeD x.1) /\ ((bif decide (x.1 < q34) then true else decide
  ((16777215 : Int) < x.1)) = false -> (q34 <= x.1 /\ x.1 <= (16777215 : Int)) /\ (∀ (y : q5), (q96 y) -> y.1 = lngD x.1 -> wrZ (q62 + (lnZ y.1)) = sizeD x.1) /\ True)
theorem e118 : t118 = Con.vc c_der_Size GL (mkEnv ty [(136, conSem c_der_length)] [] [] [0, 2, 8]) {} Tryz.f118.ntmps Tryz.f118.results.toList (bodyOf Tryz.f118) := by kernel_rfl
theorem k118 : t118 := by
  unfold t118
  delta q1 q30 q34 q5 q96 wrZ q62 lnZ wiZ wyZ
  rintro ⟨n, _⟩ hx hp
  try dsimp +instances only [dft_int, dft_sl, dft_str]
  simp only [true_and, and_true, eq_self_iff_true, implies_true, reduceCtorEq, false_implies, true_implies, decide_eq_true_eq, decide_eq_false_iff_not, beq_self_eq_true, Bool.not_eq_true', ne_eq, Decidable.not_not, List.nil_append, List.length_singleton, List.length_cons, List.length_nil, Nat.zero_add, Nat.add_zero, Nat.mul_one, and_self, beq_iff_eq, Bool.not_true, Bool.not_false, Bool.not_eq_false', Bool.cond_false_right, Bool.and_eq_true, imp_self, Bool.not_eq_true, Bool.cond_true_left, Bool.or_eq_true]
  refine ⟨fun h => by rw [sizeD, if_pos h], fun h => ?_⟩
  simp only [Bool.or_eq_false_iff, decide_eq_false_iff_not] at h
  refine ⟨⟨by omega, by omega⟩, ?_⟩
  rintro ⟨l, _⟩ _ el
  simp only at el ⊢
  have := lng_len (n := n)
  rw [el, wrapK _ (by omega) (by omega), size_of (by omega) (by omega)]
theorem h118 : c_der_Size.ok Tryz.prog GL 118 := con_ok (H := {}) (mkEnv_ok (gl := GL) (l := [(136, conSem c_der_length)]) (q := []) (d := []) _ tyOk (by kernel_rfl) ⟨h136.call, trivial⟩ trivial trivial) (by kernel_rfl) (by kernel_rfl) (Eq.mp e118 k118)
noncomputable def i157 : CallSem → CallSem := vcSeq (mkEnv ty [(119, conSem c_der_Take)] [] [] [0, 1, 3, 4, 5, 6, 10, 27]) {} Tryz.f157.ntmps Tryz.f157.results.toList (bodyOf Tryz.f157)
theorem i157_ok : SeqOk Tryz.prog GL 157 i157 := seq_ok {} (mkEnv_ok (gl := GL) (l := [(119, conSem c_der_Take)]) (q := []) (d := []) _ tyOk (by kernel_rfl) ⟨h119.call, trivial⟩ trivial trivial) (by kernel_rfl) (by kernel_rfl)
noncomputable def i117 : CallSem := vcFn (mkEnv ty [(123, conSem c_slices_Clone_byte_byte)] [] [] [0, 2, 3]) {} Tryz.f117.ntmps Tryz.f117.results.toList (bodyOf Tryz.f117)
theorem i117_ok : CallOk Tryz.prog GL 117 i117 := inl_ok {} (mkEnv_ok (gl := GL) (l := [(123, conSem c_slices_Clone_byte_byte)]) (q := []) (d := []) _ tyOk (by kernel_rfl) ⟨h123.call, trivial⟩ trivial trivial) (by kernel_rfl) (by kernel_rfl)
def t72 : Prop :=
  ∀ (x : q5), (q96 x) -> lenB x.1 <= q95 -> q36 <= q61 /\ q36 <= q61 /\ lenB x.1 <= q95 /\ (∀ (y : q5), (q96 y) -> y.1 = x.1 -> q36 <= q61 /\ ∃ (I : Int × Unit -> Unit × (Int × Unit) × q126 ×
  List q127 × Unit -> Prop), ∃ (μ : Int × Unit -> Unit × (Int × Unit) × q126 × List q127 × Unit -> Nat), (q34 = q34 /\ q34 = q34 /\ Value.slice none q63 q63 = Value.slice none q63 q63 /\ x.1
  = x.1 /\ I (q34, ()) ((), (q34, ()), (y.1, ()), [], ())) /\ ∀ (y : q1) (z : Unit × (Int × Unit) × q126 × List q127 × Unit), (q30 y) -> True /\ (wiZ z.2.1.1 /\ True) /\ (wyZ z.2.2.1.1 /\
  True) /\ (Kd.wf q125 z.2.2.2.1 /\ True) -> I y z -> (decide (y.1 < (lnZ z.2.2.1.1)) = true -> (q34 <= y.1 /\ y.1 <= (lnZ z.2.2.1.1)) /\ lenB (List.drop (q330 y) z.2.2.1.1) <= q95 /\ (∀ (y_1
  : q16), (q122 y_1) -> (y_1.1, y_1.2.1, y_1.2.2.1) = takeD (List.drop (q330 y) z.2.2.1.1) -> q65 <= q61 /\ (decide (y_1.2.2.1 ≠ q34) = false -> True) /\ (decide (y_1.2.2.1 ≠ q34) = false ->
  True) /\ (decide (y_1.2.2.1 ≠ q34) = false -> True) /\ (decide (y_1.2.2.1 ≠ q34) = false -> (decide (y_1.2.2.1 ≠ q34) == false) = true /\ (decide (y_1.2.2.1 ≠ q34) == false) = true /\
  (decide (y_1.2.2.1 ≠ q34) == false) = true /\ q65 <= q61 /\ q63 < q65 /\ (List.length z.2.2.2.1 + List.length [(y_1.1.1, y_1.1.2)]) * (32 : Nat) <= q94 /\ List.length z.2.2.2.1 +
  List.length [(y_1.1.1, y_1.1.2)] <= q93 /\ (((True /\ (∀ (y_2 : q1), (q30 y_2) -> y_2.1 = sizeD (lnZ y_1.1.2) -> (((((q34 = q34 /\ q34 = q34 /\ Value.slice none q63 q63 = Value.slice none
  q63 q63 /\ x.1 = x.1 /\ I (wrZ (y.1 + y_1.2.1), ()) ((), (wrZ (q346 y y_2 y_1), ()), (z.2.2.1.1, ()), z.2.2.2.1 ++ [(y_1.1.1, y_1.1.2)], ()) /\ μ (wrZ (y.1 + y_1.2.1), ()) ((), (wrZ (q346 y
  y_2 y_1), ()), (z.2.2.1.1, ()), z.2.2.2.1 ++ [(y_1.1.1, y_1.1.2)], ()) < μ y z) /\ True) /\ True) /\ True) /\ True) /\ (((((q34 = q34 /\ q34 = q34 /\ Value.slice none q63 q63 = Value.slice
  none q63 q63 /\ x.1 = x.1 /\ I (wrZ (y.1 + y_1.2.1), ()) ((), (wrZ (q346 y y_2 y_1), ()), (z.2.2.1.1, ()), z.2.2.2.1 ++ [(y_1.1.1, y_1.1.2)], ()) /\ μ (wrZ (y.1 + y_1.2.1), ()) ((), (wrZ
  (q346 y y_2 y_1), ()), (z.2.2.1.1, ()), z.2.2.2.1 ++ [(y_1.1.1, y_1.1.2)], ()) < μ y z) /\ True) /\ True) /\ True) /\ ((((q34 = q34 /\ q34 = q34 /\ Value.slice none q63 q63 = Value.slice
  none q63 q63 /\ x.1 = x.1 /\ I (wrZ (y.1 + y_1.2.1), ()) ((), (wrZ (q346 y y_2 y_1), ()), (z.2.2.1.1, ()), z.2.2.2.1 ++ [(y_1.1.1, y_1.1.2)], ()) /\ μ (wrZ (y.1 + y_1.2.1), ()) ((), (wrZ
  (q346 y y_2 y_1), ()), (z.2.2.1.1, ()), z.2.2.2.1 ++ [(y_1.1.1, y_1.1.2)], ()) < μ y z) /\ True) /\ True) /\ True) /\ True) /\ True) /\ True) /\ ((True /\ (∀ (y_2 : q1), (wiZ y_2.1 /\ True)
  -> y_2.1 = sizeD (lnZ y_1.1.2) -> ((((q332 = q332 /\ q332 = q332 /\ Value.slice none q347 q347 = Value.slice none q347 q347 /\ x.1 = x.1 /\ I (wrZ (y.1 + y_1.2.1), ()) ((), (wrZ (q346 y y_2
  y_1), ()), (z.2.2.1.1, ()), z.2.2.2.1 ++ [(y_1.1.1, y_1.1.2)], ()) /\ μ (wrZ (y.1 + y_1.2.1), ()) ((), (wrZ (q346 y y_2 y_1), ()), (z.2.2.1.1, ()), z.2.2.2.1 ++ [(y_1.1.1, y_1.1.2)], ()) <
  μ y z) /\ True) /\ True) /\ True) /\ ((((q332 = q332 /\ q332 = q332 /\ Value.slice none q347 q347 = Value.slice none q347 q347 /\ x.1 = x.1 /\ I (wrZ (y.1 + y_1.2.1), ()) ((), (wrZ (q346 y
  y_2 y_1), ()), (z.2.2.1.1, ()), z.2.2.2.1 ++ [(y_1.1.1, y_1.1.2)], ()) /\ μ (wrZ (y.1 + y_1.2.1), ()) ((), (wrZ (q346 y y_2 y_1), ()), (z.2.2.1.1, ()), z.2.2.2.1 ++ [(y_1.1.1, y_1.1.2)],
  ()) < μ y z) /\ True) /\ True) /\ True) /\ True) /\ True) /\ (q345 y_1 x I y z μ) /\ True) /\ True) /\ (q123 y_1 x I y z μ) /\ True) /\ ((q123 y_1 x I y z μ) /\ (((q345 y_1 x I y z μ) /\
  True) /\ True) /\ True) /\ True) /\ (decide (y_1.2.2.1 ≠ q34) = !false -> (decide (z.2.1.1 = (lnZ x.1)) = true -> (z.2.2.2.1, z.2.1.1, q34) = allD x.1) /\ (q124 z x))) /\ True) /\ (decide
  (y.1 < (lnZ z.2.2.1.1)) = false -> (decide (z.2.1.1 = (lnZ x.1)) = true -> (z.2.2.2.1, z.2.1.1, q34) = allD x.1) /\ (q124 z x))) /\ True
theorem e72 : t72 = Con.vc c_der_All GL (mkEnv ty [(117, i117), (119, conSem c_der_Take), (118, conSem c_der_Size)] [(157, i157)] [] [0, 2, 3, 4, 5, 6, 7, 8, 11, 13, 14, 15, 33]) {} Tryz.f72.ntmps Tryz.f72.results.toList (bodyOf Tryz.f72) := by kernel_rfl
theorem k72 : t72 := by
  unfold t72
  delta q5 q96 q95 q36 q61 q126 q127 q34 q63 q1 q30 wiZ wyZ q125 lnZ q330 q16 q122 q65 q94 q93 wrZ q346 q332 q347 q345 q123 q124 q365 q421 q430 q381 q425 q451
  rintro ⟨b, _⟩ hx hp
  have hp : b.length ≤ 1000000000 := hp
  have hb : Bys b := sl_bys hx.1
  try dsimp +instances only [dft_int, dft_sl, dft_str]
  simp only [true_and, and_true, eq_self_iff_true, implies_true, reduceCtorEq, false_implies, true_implies, decide_eq_true_eq, decide_eq_false_iff_not, beq_self_eq_true, Bool.not_eq_true', ne_eq, Decidable.not_not, List.nil_append, List.length_singleton, List.length_cons, List.length_nil, Nat.zero_add, Nat.add_zero, Nat.mul_one, and_self, beq_iff_eq, Bool.not_true, Bool.not_false, Bool.not_eq_false', Bool.cond_false_right, Bool.and_eq_true, imp_self, Bool.not_eq_true, Bool.cond_true_left, Bool.or_eq_true]
  refine ⟨by decide, by decide, hp, ?_⟩
  rintro ⟨b1, _⟩ _ eb
  have eb : b1 = b := eb
  subst eb
  refine ⟨by decide, fun y z => z.2.2.1.1 = b1 ∧ 0 ≤ y.1 ∧ y.1 ≤ b1.length ∧ z.2.1.1 = y.1 ∧ (z.2.2.2.1 : List EltT).length ≤ y.1 ∧ ∃ (k : Nat) (pre : List (Int × EltT)), (b1.length : Int) - y.1 ≤ k ∧ rowD b1 = (pre ++ (rowR b1 k y.1).1, (rowR b1 k y.1).2) ∧ z.2.2.2.1 = pre.map (·.2), fun y _ => ((b1.length : Int) - y.1).toNat, ⟨rfl, Int.le_refl 0, by simp only; omega, rfl, by simp, b1.length, [], by simp only; omega, rfl, rfl⟩, ?_⟩
  rintro ⟨i, _⟩ ⟨_, ⟨en, _⟩, ⟨own, _⟩, out, _⟩ _ _ ⟨eo, i0, i1, ee, hl, k, pre, hk, hr, eout⟩
  simp only at eo i0 i1 ee hl hk hr eout ⊢
  subst eo ee
  refine ⟨fun hlt => ⟨⟨i0, by omega⟩, by rw [lenB, List.length_drop]; omega, ?_⟩, fun hge => ⟨fun h => ?_, fun h => absurd (by omega) h⟩⟩
  . rintro ⟨x, n, e, _⟩ _ eT
    simp only at eT ⊢
    obtain ⟨m, rfl⟩ : ∃ m, k = m + 1 := ⟨k - 1, by omega⟩
    have hbd : Bys (own.drop en.toNat) := bys_drop hb _
    refine ⟨by decide, fun he => ?_, fun he => ⟨fun h => by omega, fun h => ⟨⟨i0, i1⟩, by rw [lenB, List.length_drop]; omega, ?_⟩⟩⟩
    . subst he
      have ok : (takeD (own.drop en.toNat)).2.2 = 0 := by rw [← eT]
      have h1 := take_inv hbd ok
      have h2 := take_ok hbd ok
      rw [row_step own m en hlt ok] at hr
      rw [← eT] at h1 h2 hr
      simp only at h1 h2 hr
      rw [List.length_drop] at h2
      have hpl := put_len x
      have hll := lng_len (n := (x.2.length : Int))
      refine ⟨by trivial, by trivial, by trivial, by decide, by decide, by omega, by omega, ?_⟩
      rintro ⟨z, _⟩ _ ez
      simp only at ez ⊢
      rw [size_of (by omega) (by omega)] at ez
      rw [wrapK (en + n) (by omega) (by omega), wrapK (en + z) (by omega) (by omega), wrapK (en + z + (x.2.length : Int)) (by omega) (by omega)]
      refine ⟨⟨by trivial, by omega, by omega, by omega, by rw [List.length_append, List.length_singleton]; omega, m, pre ++ [(en, x)], by omega, ?_, ?_⟩, by omega⟩
      . rw [hr]; simp
      . rw [eout]; simp
    . rintro ⟨x2, n2, e2, _⟩ _ eT2
      simp only at eT2 ⊢
      have he2 : e2 = e := by
        have := eT.trans eT2.symm
        simp only [Prod.mk.injEq] at this
        exact this.2.2.symm
      have bad : (takeD (own.drop en.toNat)).2.2 ≠ 0 := by rw [← eT]; exact he
      rw [row_bad own m en hlt bad, ← eT] at hr
      refine ⟨by decide, ?_⟩
      rw [allD, hr, he2]
      simp only
      rw [if_pos he]
  . rw [row_end own k en hge] at hr
    rw [allD, hr]
    simp only
    rw [if_neg (by simp), List.append_nil, eout]
theorem h72 : c_der_All.ok Tryz.prog GL 72 := con_ok (H := {}) (mkEnv_ok (gl := GL) (l := [(117, i117), (119, conSem c_der_Take), (118, conSem c_der_Size)]) (q := [(157, i157)]) (d := []) _ tyOk (by kernel_rfl) ⟨i117_ok, h119.call, h118.call, trivial⟩ ⟨i157_ok, trivial⟩ trivial) (by kernel_rfl) (by kernel_rfl) (Eq.mp e72 k72)
end Go.Proofs.YtiofbnlbfmbodaaGreatDoor
end
section
namespace Go.Proofs.YtiofbnlbfmbodaaGreatDoor
open Go Go.Vc Go.Pl Go.Proofs
end Go.Proofs.YtiofbnlbfmbodaaGreatDoor
end
section
namespace Go.Proofs.YtiofbnlbfmbodaaGreatDoor
open Go Go.Vc Go.Pl Go.Proofs
set_option linter.unusedVariables false
set_option linter.unusedSimpArgs false
set_option maxRecDepth 20000
end Go.Proofs.YtiofbnlbfmbodaaGreatDoor
end
section
namespace Go.Proofs.YtiofbnlbfmbodaaGreatDoor
open Go Go.Vc Go.Pl Go.Proofs
def c_oid_May : Con := { args := [.dat (.sl I64)], res := [.dat .bool], pre := fun _ => True, post := fun x y => y.1 = mayO x.1 }
def c_oid_number : Con := { args := [.own 5 U8, .dat I64], res := [.own 5 U8], pre := fun x => lenI x.1 ≤ 1000 ∧ 0 ≤ x.2.1 ∧ x.2.1 ≤ 2147483647, post := fun x y => y.1 = x.1 ++ numO x.2.1 }
def c_oid_Encode : Con := { args := [.dat (.sl I64)], res := [.own 5 U8, .dat I64], pre := fun _ => True, post := fun x y => (y.1, y.2.1) = EncO x.1 }
end Go.Proofs.YtiofbnlbfmbodaaGreatDoor
end
section
namespace Go.Proofs.YtiofbnlbfmbodaaGreatDoor
open Go Go.Vc Go.Pl Go.Proofs
set_option linter.unusedVariables false
set_option linter.unusedSimpArgs false
abbrev q382 := (Kd.dft q425)
abbrev q128 (p0 : q5) (p1 : q9) := (bif decide (List.getD p0.1 (Int.toNat p1.1) q382 < q332) then true else decide ((2147483647 : Int) < List.getD p0.1 (Int.toNat p1.1) q382))
abbrev q129 (p0 : q5) (p1 : q9) := (List.getD p0.1 (Int.toNat p1.1) q382 < q332)
abbrev q130 (p0 : q5) := (Kd.wf (Kd.sl q425) p0.1 /\ True)
abbrev q131 := (Kd.dft q425)
abbrev q132 (p0 : q5) := ((lnZ p0.1) < q343)
abbrev q133 (p0 : q0) (p1 : q1) := (↑(BitVec.toNat (BitVec.ofInt q360 (IntKind.wrap IntKind.u8 (Int.fdiv p0.2.1 (q343 ^ min (q330 p1) (64 : Nat)))) ||| BitVec.ofInt q360 (128 : Int))) :
  Int)
abbrev q134 (p0 : q0) := (↑(BitVec.toNat (BitVec.ofInt q360 (IntKind.wrap IntKind.u8 p0.2.1) &&& BitVec.ofInt q360 (127 : Int))) : Int)
abbrev q135 (p0 : q0) := (wyZ p0.1 /\ wiZ p0.2.1 /\ True)
abbrev q136 (p0 : q5) := (wrZ ((40 : Int) * List.getD p0.1 q347 q382) + List.getD p0.1 q416 q382)
abbrev q137 (p0 : q5) := (lnZ (List.drop (2 : Nat) p0.1))
abbrev q138 (p0 : q1) := (p0.1 + q334)
def t108 : Prop :=
  ∀ (x : q5), (q130 x) -> True -> (decide (q132 x) = false -> True) /\ (decide (q132 x) = false -> (decide (q132 x) == false) = true /\ True) /\ (decide (q132 x) = false -> (decide (q132 x)
  == false) = true /\ True) /\ (decide (q132 x) = false -> (decide (q132 x) == false) = true) /\ ((bif decide (q132 x) then true else decide ((20 : Int) < (lnZ x.1))) = true -> false = mayO
  x.1) /\ ((bif decide (q132 x) then true else decide ((20 : Int) < (lnZ x.1))) = false -> ∃ (I : q7), ∃ (μ : q8), ((lnZ x.1) = (lnZ x.1) /\ x.1 = x.1 /\ Value.bool false = Value.bool false
  /\ x.1 = x.1 /\ I (q34, false, ()) ()) /\ ∀ (y : q9) (z : Unit), (q74 y) -> True -> I y z -> (decide (y.1 < (lnZ x.1)) = true -> (q34 <= y.1 /\ y.1 < (lnZ x.1)) /\ (decide (q129 x y) =
  false -> True) /\ (decide (q129 x y) = false -> (decide (q129 x y) == false) = true /\ True) /\ (decide (q129 x y) = false -> (decide (q129 x y) == false) = true) /\ ((q128 x y) = true ->
  false = mayO x.1) /\ ((q128 x y) = false -> (lnZ x.1) = (lnZ x.1) /\ x.1 = x.1 /\ Value.bool false = Value.bool false /\ x.1 = x.1 /\ I (wrZ (y.1 + q334), y.2.1, ()) () /\ μ (wrZ (y.1 +
  q334), y.2.1, ()) () < μ y z)) /\ (decide (y.1 < (lnZ x.1)) = false -> (q58 x) /\ (decide (List.getD x.1 q63 q131 = q34) = true -> (q59 x) /\ decide (List.getD x.1 q36 q131 < (40 : Int)) =
  mayO x.1) /\ (decide (List.getD x.1 q63 q131 = q34) = false -> (decide (List.getD x.1 q63 q131 = q62) = true -> (q59 x) /\ decide (List.getD x.1 q36 q131 < (40 : Int)) = mayO x.1) /\
  (decide (List.getD x.1 q63 q131 = q62) = false -> (decide (List.getD x.1 q63 q131 = q67) = true -> (q59 x) /\ decide (List.getD x.1 q36 q131 <= (2147483567 : Int)) = mayO x.1) /\ (decide
  (List.getD x.1 q63 q131 = q67) = false -> false = mayO x.1)))))
theorem e108 : t108 = Con.vc c_oid_May GL (mkEnv ty [] [] [] [0, 2, 4, 12, 13, 14, 15, 16, 24, 28, 29, 36]) {} Tryz.f108.ntmps Tryz.f108.results.toList (bodyOf Tryz.f108) := by kernel_rfl
theorem k108 : t108 := by
  unfold t108
  delta q5 q130 q132 lnZ q7 q8 q34 q9 q74 q129 q128 wrZ q334 q58 q63 q131 q59 q36 q62 q67 q425 q343 wiZ wbZ q382 q332
  rintro ⟨l, _⟩ hx hp
  try dsimp +instances only [dft_int, dft_sl, dft_str]
  simp only [true_and, and_true, eq_self_iff_true, implies_true, reduceCtorEq, false_implies, true_implies, decide_eq_true_eq, decide_eq_false_iff_not, beq_self_eq_true, Bool.not_eq_true', ne_eq, Decidable.not_not, List.nil_append, List.length_singleton, List.length_cons, List.length_nil, Nat.zero_add, Nat.add_zero, Nat.mul_one, and_self, beq_iff_eq, Bool.not_true, Bool.not_false, Bool.not_eq_false', Bool.cond_false_right, Bool.and_eq_true, imp_self, Bool.not_eq_true, Bool.cond_true_left, Bool.or_eq_true]
  refine ⟨fun h => (may_len h).symm, fun h => ?_⟩
  simp only [Bool.or_eq_false_iff, decide_eq_false_iff_not] at h
  refine ⟨fun y _ => 0 ≤ y.1 ∧ y.1 ≤ l.length ∧ ∀ j, j < y.1.toNat → 0 ≤ l.getD j 0 ∧ l.getD j 0 ≤ 2147483647, fun y _ => ((l.length : Int) - y.1).toNat, ⟨Int.le_refl 0, by simp only; omega, fun j hj => by simp at hj⟩, ?_⟩
  rintro ⟨i, b, _⟩ _ _ ⟨i0, i1, i2⟩
  simp only at i0 i1 i2 ⊢
  have hw1 : IntKind.wrap .i64 (i + 1) = i + 1 := wrapK _ (by omega) (by omega)
  rw [hw1]
  refine ⟨fun hlt => ⟨⟨i0, hlt⟩, fun hb => (may_in (by omega) hb).symm, fun hg => ⟨⟨by omega, by omega, fun j hj => ?_⟩, by omega⟩⟩, fun hge => ?_⟩
  . simp only [Bool.or_eq_false_iff, decide_eq_false_iff_not] at hg
    by_cases hji : j < i.toNat
    . exact i2 j hji
    . rw [show j = i.toNat by omega]; omega
  . have hr := may_rest (l := l) (by omega) (by omega) (fun j hj => i2 j (by omega))
    have h0 := i2 0 (by omega)
    rw [hr]
    refine ⟨⟨by omega, by omega⟩, fun e => ⟨⟨by omega, by omega⟩, by rw [if_pos (by omega)]⟩, fun e0 => ⟨fun e => ⟨⟨by omega, by omega⟩, by rw [if_pos (by omega)]⟩, fun e1 => ⟨fun e => ⟨⟨by omega, by omega⟩, by rw [if_neg (by omega), if_pos e]⟩, fun e2 => by rw [if_neg (by omega), if_neg e2]⟩⟩⟩
theorem h108 : c_oid_May.ok Tryz.prog GL 108 := con_ok (H := {}) (mkEnv_ok (gl := GL) (l := []) (q := []) (d := []) _ tyOk (by kernel_rfl) trivial trivial trivial) (by kernel_rfl) (by kernel_rfl) (Eq.mp e108 k108)
def t109 : Prop :=
  ∀ (x : q0), (q135 x) -> lenI x.1 <= (1000 : Nat) /\ q34 <= x.2.1 /\ x.2.1 <= (2147483647 : Int) -> ∃ (I : Int × Unit -> Unit -> Prop), ∃ (μ : Int × Unit -> Unit -> Nat), (Value.slice none
  q63 q63 = Value.slice none q63 q63 /\ x.2.1 = x.2.1 /\ x.1 = x.1 /\ I (q34, ()) ()) /\ ∀ (y : q1) (z : Unit), (q30 y) -> True -> I y z -> q34 <= y.1 /\ (decide ((127 : Int) < Int.fdiv x.2.1
  (q343 ^ min (q330 y) (64 : Nat))) = true -> Value.slice none q63 q63 = Value.slice none q63 q63 /\ x.2.1 = x.2.1 /\ x.1 = x.1 /\ I (wrZ (y.1 + q415), ()) () /\ μ (wrZ (y.1 + q415), ()) () <
  μ y z) /\ (decide ((127 : Int) < Int.fdiv x.2.1 (q343 ^ min (q330 y) (64 : Nat))) = false -> ∃ (I : q14), ∃ (μ : q15), (Value.bool false = Value.bool false /\ Value.slice none q63 q63 =
  Value.slice none q63 q63 /\ x.2.1 = x.2.1 /\ I (y.1, ()) (x.1, ())) /\ ∀ (y : q1) (z : q5), (q30 y) -> (q96 z) -> I y z -> (decide (q34 < y.1) = true -> q34 <= y.1 /\ q63 < q36 /\
  (List.length z.1 + List.length [IntKind.wrap IntKind.u8 (q133 x y)]) * q36 <= q94 /\ List.length z.1 + List.length [IntKind.wrap IntKind.u8 (q133 x y)] <= q93 /\ Value.bool false =
  Value.bool false /\ Value.slice none q63 q63 = Value.slice none q63 q63 /\ x.2.1 = x.2.1 /\ I (wrZ (y.1 - q415), ()) (z.1 ++ [IntKind.wrap IntKind.u8 (q133 x y)], ()) /\ μ (wrZ (y.1 -
  q415), ()) (z.1 ++ [IntKind.wrap IntKind.u8 (q133 x y)], ()) < μ y z) /\ (decide (q34 < y.1) = false -> q63 < q36 /\ (List.length z.1 + List.length [IntKind.wrap IntKind.u8 (q134 x)]) * q36
  <= q94 /\ List.length z.1 + List.length [IntKind.wrap IntKind.u8 (q134 x)] <= q93 /\ z.1 ++ [IntKind.wrap IntKind.u8 (q134 x)] = x.1 ++ numO x.2.1))
theorem e109 : t109 = Con.vc c_oid_number GL (mkEnv ty [] [] [] [0, 1, 4, 5, 9, 13]) {} Tryz.f109.ntmps Tryz.f109.results.toList (bodyOf Tryz.f109) := by kernel_rfl
theorem k109 : t109 := by
  unfold t109
  delta q0 q135 q34 q63 q1 q30 q343 q330 wrZ q415 q14 q15 q5 q96 q36 q133 q94 q93 q134 wyZ wiZ q360
  rintro ⟨b, n, _⟩ hx hp
  obtain ⟨p0, p1, p2⟩ := hp
  simp only at p0 p1 p2
  have p0 : b.length ≤ 1000 := p0
  have h4 := small4 p2
  try dsimp +instances only [dft_int, dft_sl, dft_str]
  simp only [true_and, and_true, eq_self_iff_true, implies_true, reduceCtorEq, false_implies, true_implies, decide_eq_true_eq, decide_eq_false_iff_not, beq_self_eq_true, Bool.not_eq_true', ne_eq, Decidable.not_not, List.nil_append, List.length_singleton, List.length_cons, List.length_nil, Nat.zero_add, Nat.add_zero, Nat.mul_one, and_self, beq_iff_eq, Bool.not_true, Bool.not_false, Bool.not_eq_false', Bool.cond_false_right, Bool.and_eq_true, imp_self, Bool.not_eq_true, Bool.cond_true_left, Bool.or_eq_true]
  refine ⟨fun y _ => ∃ k : Nat, k ≤ 4 ∧ y.1 = 7 * (k : Int) ∧ (0 < k → 0 < n / 128 ^ k), fun y _ => (28 - y.1).toNat, ⟨0, by omega, rfl, fun h => absurd h (by omega)⟩, ?_⟩
  rintro ⟨y, _⟩ _ _ ⟨k, k4, rfl, hk⟩
  simp only
  rw [shift_div n k p1 k4]
  refine ⟨by omega, fun hlt => ?_, fun hge => ?_⟩
  . have : k < 4 := by
      rcases Nat.lt_or_ge k 4 with h | h
      . exact h
      . rw [show k = 4 by omega] at hlt; omega
    rw [show IntKind.wrap .i64 (7 * (k : Int) + 7) = 7 * ((k + 1 : Nat) : Int) by rw [wrapK _ (by omega) (by omega)]; omega]
    refine ⟨⟨k + 1, by omega, rfl, fun _ => ?_⟩, by omega⟩
    rw [pow_div n k k4]
    omega
  . have hN : hiN n = k := hi_is p1 k4 (by omega) hk
    refine ⟨fun y z => ∃ j : Nat, j ≤ k ∧ y.1 = 7 * (j : Int) ∧ z.1 ++ hiD j n = b ++ hiD k n, fun y _ => y.1.toNat, ⟨k, Nat.le_refl k, rfl, rfl⟩, ?_⟩
    rintro ⟨y, _⟩ ⟨z, _⟩ _ _ ⟨j, jk, rfl, hz⟩
    simp only at hz ⊢
    have hl : z.length + j = b.length + k := by
      have := congrArg List.length hz
      rwa [List.length_append, List.length_append, hi_length, hi_length] at this
    refine ⟨fun hj => ?_, fun hj => ?_⟩
    . obtain ⟨i, rfl⟩ : ∃ i, j = i + 1 := ⟨j - 1, by omega⟩
      rw [shift_div n (i + 1) p1 (by omega), or128, show IntKind.wrap .i64 (7 * ((i + 1 : Nat) : Int) - 7) = 7 * (i : Int) by rw [wrapK _ (by omega) (by omega)]; omega]
      refine ⟨by omega, by decide, by omega, by omega, ⟨i, by omega, rfl, ?_⟩, by omega⟩
      rw [List.append_assoc]
      exact hz
    . have : j = 0 := by omega
      subst this
      rw [and127]
      refine ⟨by decide, by omega, by omega, ?_⟩
      rw [numO, hN, ← List.append_assoc, ← hz]
      simp [hiD]
theorem h109 : c_oid_number.ok Tryz.prog GL 109 := con_ok (H := {}) (mkEnv_ok (gl := GL) (l := []) (q := []) (d := []) _ tyOk (by kernel_rfl) trivial trivial trivial) (by kernel_rfl) (by kernel_rfl) (Eq.mp e109 k109)
def t58 : Prop :=
  ∀ (x : q5), (q130 x) -> True -> True /\ (∀ (y : q4), (q41 y) -> y.1 = mayO x.1 -> ((!y.1) = true -> ([], q67) = EncO x.1) /\ ((!y.1) = false -> (q58 x) /\ (q59 x) /\ (lenI [] <= (1000 :
  Nat) /\ q34 <= wrZ (q136 x) /\ wrZ (q136 x) <= (2147483647 : Int)) /\ (∀ (y : q5), (q96 y) -> y.1 = [] ++ numO (wrZ (q136 x)) -> (q34 <= q67 /\ q67 <= (lnZ x.1)) /\ ∃ (I : q14), ∃ (μ :
  q15), ((q137 x) = (q137 x) /\ List.drop q65 x.1 = List.drop q65 x.1 /\ Value.bool false = Value.bool false /\ q34 = q34 /\ Value.slice none q63 q63 = Value.slice none q63 q63 /\ x.1 = x.1
  /\ I (q34, ()) (y.1, ())) /\ ∀ (y : q1) (z : q5), (q30 y) -> (q96 z) -> I y z -> (decide (y.1 < (q137 x)) = true -> (q34 <= y.1 /\ y.1 < (q137 x)) /\ (lenI z.1 <= (1000 : Nat) /\ q34 <=
  List.getD (List.drop (2 : Nat) x.1) (q330 y) q131 /\ List.getD (List.drop (2 : Nat) x.1) (q330 y) q131 <= (2147483647 : Int)) /\ (∀ (y_1 : q5), (q96 y_1) -> y_1.1 = z.1 ++ numO (List.getD
  (List.drop (2 : Nat) x.1) (q330 y) q131) -> (q137 x) = (q137 x) /\ List.drop q65 x.1 = List.drop q65 x.1 /\ Value.bool false = Value.bool false /\ q34 = q34 /\ Value.slice none q63 q63 =
  Value.slice none q63 q63 /\ x.1 = x.1 /\ I (wrZ (q138 y), ()) (y_1.1, ()) /\ μ (wrZ (q138 y), ()) (y_1.1, ()) < μ y z) /\ True) /\ (decide (y.1 < (q137 x)) = false -> (z.1, q34) = EncO
  x.1)) /\ True)) /\ True
theorem e58 : t58 = Con.vc c_oid_Encode GL (mkEnv ty [(108, conSem c_oid_May), (109, conSem c_oid_number)] [] [] [0, 2, 3, 4, 6, 9, 20, 21, 22, 23]) {} Tryz.f58.ntmps Tryz.f58.results.toList (bodyOf Tryz.f58) := by kernel_rfl
theorem k58 : t58 := by
  unfold t58
  delta q5 q130 q4 q41 q67 q58 q59 q34 wrZ q136 q96 lnZ q14 q15 q137 q65 q63 q1 q30 q330 q131 q138 q425 wbZ q332 q334 q347 q382 q416 wyZ wiZ
  rintro ⟨l, _⟩ hx hp
  try dsimp +instances only [dft_int, dft_sl, dft_str]
  simp only [true_and, and_true, eq_self_iff_true, implies_true, reduceCtorEq, false_implies, true_implies, decide_eq_true_eq, decide_eq_false_iff_not, beq_self_eq_true, Bool.not_eq_true', ne_eq, Decidable.not_not, List.nil_append, List.length_singleton, List.length_cons, List.length_nil, Nat.zero_add, Nat.add_zero, Nat.mul_one, and_self, beq_iff_eq, Bool.not_true, Bool.not_false, Bool.not_eq_false', Bool.cond_false_right, Bool.and_eq_true, imp_self, Bool.not_eq_true, Bool.cond_true_left, Bool.or_eq_true]
  simp only [all_bool]
  refine ⟨fun h => by rw [EncO, h]; rfl, fun h => ?_⟩
  obtain ⟨h1, h2, h3, h4, h5⟩ := may_args h
  have hg : ∀ i, i < l.length → 0 ≤ l.getD i 0 ∧ l.getD i 0 ≤ 2147483647 := fun i hi => h3 _ (by
    rw [List.getD_eq_getElem?_getD, List.getElem?_eq_getElem hi]
    exact List.getElem_mem _)
  have g0 := hg 0 (by omega)
  have g1 := hg 1 (by omega)
  rw [wrapK (40 * l.getD 0 0) (by omega) (by omega), wrapK (40 * l.getD 0 0 + l.getD 1 0) (by omega) (by omega)]
  refine ⟨⟨by omega, by omega⟩, ⟨by omega, by omega⟩, ⟨by decide, h4, h5⟩, ?_⟩
  rintro ⟨a, _⟩ _ ea
  simp only at ea ⊢
  have hdl : (List.drop 2 l).length = l.length - 2 := List.length_drop
  have hdg : ∀ i : Nat, (List.drop 2 l).getD i 0 = l.getD (i + 2) 0 := fun i => by
    rw [List.getD_eq_getElem?_getD, List.getElem?_drop, ← List.getD_eq_getElem?_getD, Nat.add_comm]
  rw [hdl]
  refine ⟨⟨by omega, by omega⟩, fun y z => 0 ≤ y.1 ∧ y.1 ≤ (l.length : Int) - 2 ∧ z.1 = encP l (y.1.toNat + 2), fun y _ => ((l.length : Int) - y.1).toNat, ⟨Int.le_refl 0, by simp only; omega, by rw [ea]; exact (encP_two l).symm⟩, ?_⟩
  rintro ⟨i, _⟩ ⟨z, _⟩ _ _ ⟨i0, i1, ez⟩
  simp only at i0 i1 ez ⊢
  have hw1 : IntKind.wrap .i64 (i + 1) = i + 1 := wrapK _ (by omega) (by omega)
  rw [hw1, hdg]
  refine ⟨fun hlt => ⟨⟨by omega, hlt⟩, ⟨?_, hg (i.toNat + 2) (by omega)⟩, ?_⟩, fun hge => ?_⟩
  . have l1 := encP_len l (i.toNat + 2)
    rw [← ez] at l1
    show z.length ≤ 1000
    omega
  . rintro ⟨c, _⟩ _ ec
    simp only at ec ⊢
    refine ⟨⟨by omega, by omega, ?_⟩, by omega⟩
    rw [show (i + 1).toNat + 2 = i.toNat + 2 + 1 by omega, encP_step (by omega) (by omega), ec, ez]
  . rw [EncO, h, if_pos rfl, ez, encP_all (by omega)]
theorem h58 : c_oid_Encode.ok Tryz.prog GL 58 := con_ok (H := {}) (mkEnv_ok (gl := GL) (l := [(108, conSem c_oid_May), (109, conSem c_oid_number)]) (q := []) (d := []) _ tyOk (by kernel_rfl) ⟨h108.call, h109.call, trivial⟩ trivial trivial) (by kernel_rfl) (by kernel_rfl) (Eq.mp e58 k58)
end Go.Proofs.YtiofbnlbfmbodaaGreatDoor
end
