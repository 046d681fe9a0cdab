/- Texts of a verified walk, led together: DerA, DerW, DerrA, DerrW, OidA, OidW. -/
import Derived.Test.YtiofbnlbfmbodaaGreatDoorZW03
import Derived.Test.YtiofbnlbfmbodaaGreatDoorZV10
import Derived.Test.YtiofbnlbfmbodaaGreatDoorZV09
set_option linter.unusedVariables false
set_option linter.unusedSimpArgs false
section
namespace Go.Proofs.YtiofbnlbfmbodaaGreatDoor
open Go Go.Vc Go.Pl Go.Proofs
def c_der_isTag : Con := { args := [.dat I64], res := [.dat .bool], pre := fun _ => True, post := fun x y => y.1 = isTagD x.1 }
def c_der_length : Con := { args := [.dat I64], res := [.own 5 U8], pre := fun x => 0 ≤ x.1 ∧ x.1 ≤ 16777215, post := fun x y => y.1 = lngD x.1 }
def c_slices_Clone_byte_byte : Con := { args := [.dat BY], res := [.dat BY], pre := fun x => lenB x.1 ≤ 1000000000, post := fun x y => y.1 = x.1 }
def c_slices_Concat_byte_byte : Con := { args := [.dat (.sl BY)], res := [.own 5 U8], pre := fun x => lenF x.1 ≤ 1000000000, post := fun x y => y.1 = x.1.flatten }
def c_der_Put : Con := { args := [.dat BY, .dat I64, .dat (.sl BY)], res := [.own 5 U8, .dat I64], pre := fun x => lenB x.1 ≤ 900000000, post := fun x y => (y.1, y.2.1) = PutD x.1 x.2.1 x.2.2.1.flatten }
def c_der_head : Con := { args := [.dat BY], res := [.dat I64, .dat I64, .dat I64, .dat I64], pre := fun x => lenB x.1 ≤ 1000000000, post := fun x y => (y.1, y.2.1, y.2.2.1, y.2.2.2.1) = headK x.1 }
def c_der_Take : Con := { args := [.dat BY], res := [.dat ET, .dat I64, .dat I64], pre := fun x => lenB x.1 ≤ 1000000000, post := fun x y => (y.1, y.2.1, y.2.2.1) = takeD x.1 }
def c_der_One : Con := { args := [.dat BY], res := [.dat ET, .dat I64], pre := fun x => lenB x.1 ≤ 1000000000, post := fun x y => (y.1, y.2.1) = oneD x.1 }
def c_der_Size : Con := { args := [.dat I64], res := [.dat I64], pre := fun _ => True, post := fun x y => y.1 = sizeD x.1 }
def c_der_All : Con := { args := [.dat BY], res := [.own 116 ET, .dat I64, .dat I64], pre := fun x => lenB x.1 ≤ 1000000000, post := fun x y => (y.1, y.2.1, y.2.2.1) = allD x.1 }
end Go.Proofs.YtiofbnlbfmbodaaGreatDoor
end
section
namespace Go.Proofs.YtiofbnlbfmbodaaGreatDoor
open Go Go.Vc Go.Pl Go.Proofs
set_option linter.unusedVariables false
set_option linter.unusedSimpArgs false
abbrev wyZ (x : List Int) : Prop := Kd.wf (Kd.sl (Kd.int IntKind.u8)) x
abbrev q15 := (List (List Int) × Unit)
abbrev q16 := (Int × Unit -> List Int × Unit -> Prop)
abbrev q17 := (Int × Unit -> List Int × Unit -> Nat)
abbrev q18 := (Int × Int × Int × Int × Unit)
abbrev q19 := ((Int × List Int) × Int × Int × Unit)
abbrev q394 (p0 : q1) := (bif decide (q482 <= p0.1) then decide (p0.1 <= (255 : Int)) else false)
abbrev q157 (p0 : q1) := ((q394 p0) = true -> ((q394 p0) == true) = true /\ True)
abbrev q158 := (9223372036854775807 : Nat)
abbrev q159 := (140737488355328 : Nat)
abbrev q160 (p0 : q5) := (wyZ p0.1 /\ True)
abbrev q441 := (Kd.dft (Kd.sl (Kd.int IntKind.u8)))
abbrev q419 := (140737488355328 : Nat)
abbrev q418 := (9223372036854775807 : Nat)
abbrev q161 (p0 : q1) (p1 : q15) (p2 : q5) (p3 : q6) (p4 : q16) (p5 : q17) := (decide (p0.1 < (lnZ p1.1)) = true -> (q379 <= p0.1 /\ p0.1 < (lnZ p1.1)) /\ q402 < q387 /\ (List.length p2.1 +
  List.length (List.getD p1.1 (q377 p0) q441)) * q387 <= q419 /\ List.length p2.1 + List.length (List.getD p1.1 (q377 p0) q441) <= q418 /\ (lnZ p1.1) = (lnZ p1.1) /\ p1.1 = p1.1 /\ Value.bool
  false = Value.bool false /\ p3.1 = p3.1 /\ (lnZ p1.1) = (lnZ p1.1) /\ p1.1 = p1.1 /\ p3.2.1 = p3.2.1 /\ Value.slice none q402 q402 = Value.slice none q402 q402 /\ p1.1 = p1.1 /\ p4 (wrZ
  (p0.1 + q417), ()) (p2.1 ++ List.getD p1.1 (q377 p0) q441, ()) /\ p5 (wrZ (p0.1 + q417), ()) (p2.1 ++ List.getD p1.1 (q377 p0) q441, ()) < p5 p0 p2)
abbrev q396 (p0 : q6) := (p0.2.1 - wrZ (q482 - q482))
abbrev q162 (p0 : q6) := (List.replicate (Int.toNat (wrZ (q396 p0))) q429)
abbrev q163 (p0 : q6) (p1 : q15) := (p0.2.1 + (lnZ (List.getD p1.1 (Int.toNat p0.1) q441)))
abbrev q404 := (Kd.sl q488)
abbrev q164 := (Kd.sl q404)
abbrev q165 (p0 : List Int × Int × List (List Int) × Unit) (p1 : Int × Int × Int × Unit) := (lnZ (List.getD p0.2.2.1 (Int.toNat p1.1) q441))
abbrev q490 (p0 : q5) := (wrZ (List.getD p0.1 (1 : Nat) q511) - (128 : Int))
abbrev q442 (p0 : q5) := (bif decide (wrZ (q490 p0) = q482) then true else decide ((3 : Int) < wrZ (q490 p0)))
abbrev q166 (p0 : q5) := (((q442 p0) == false && (q442 p0) == false) = true -> decide (q428 < (lnZ p0.1)) = true -> ((q442 p0) == false && (q442 p0) == false && decide (q428 < (lnZ p0.1))
  == true) = true /\ True)
abbrev q167 (p0 : q5) := ((q442 p0) == false && (q442 p0) == false && decide (q428 < (lnZ p0.1)) == true)
abbrev q397 (p0 : q5) := ((bif decide (wrZ (q490 p0) = q482) then true else decide ((3 : Int) < wrZ (q490 p0))) == false)
abbrev q168 (p0 : q5) := ((q442 p0) = false -> (q397 p0) = true /\ True)
abbrev q169 (p0 : q5) := ((q442 p0) == false && (q442 p0) == false)
abbrev q443 (p0 : q5) := (wrZ (q490 p0) = q482)
abbrev q444 (p0 : q5) := ((3 : Int) < wrZ (q490 p0))
abbrev q170 (p0 : q5) := (bif bif decide (q443 p0) then true else decide (q444 p0) then true else bif decide (q428 < (lnZ p0.1)) then decide (List.getD p0.1 (2 : Nat) q429 = q379) else
  false)
abbrev q489 (p0 : q5) := (Int.toNat (wrZ ((2 : Int) + wrZ (wrZ (List.getD p0.1 (1 : Nat) q511) - (128 : Int)))))
abbrev q445 (p0 : q5) := (List.drop (2 : Nat) (List.take (q489 p0) p0.1))
abbrev q171 (p0 : q6) (p1 : q5) := (↑(BitVec.toNat (BitVec.ofInt (64 : Nat) (wrZ (p0.2.1 * q428 ^ q480)) ||| BitVec.ofInt (64 : Nat) (wrZ (List.getD (q445 p1) (Int.toNat p0.1) q429)))) :
  Int)
abbrev q172 (p0 : q5) := ((q442 p0) = false -> True)
abbrev q173 (p0 : q5) := (bif decide (q443 p0) then true else decide (q444 p0))
abbrev q174 (p0 : q6) (p1 : q5) := (p0.1 < (lnZ (q445 p1)))
abbrev q175 (p0 : q5) := (lnZ (q445 p0))
abbrev q176 (p0 : q5) := (List.take (q489 p0) p0.1)
abbrev q177 (p0 : q5) := (decide (q443 p0) == false)
abbrev q178 (p0 : q5) := ((lnZ p0.1) < wrZ ((2 : Int) + wrZ (wrZ (List.getD p0.1 (1 : Nat) q511) - (128 : Int))))
abbrev q179 (p0 : q5) := (wrZ (q490 p0) = q379)
abbrev q180 (p0 : q5) := (q428 + wrZ (q490 p0))
abbrev q446 (p0 : q5) := (List.getD p0.1 (1 : Nat) q511)
abbrev q181 (p0 : q5) := (wrZ (q446 p0) - q487)
abbrev q182 (p0 : q5) := (List.getD p0.1 q402 q429)
abbrev q183 (p0 : q5) := (List.getD p0.1 q387 q429)
abbrev q184 (p0 : q5) := (q428 < (lnZ p0.1))
abbrev q398 (p0 : q18) := (p0.2.2.2.1 = q482)
abbrev q185 (p0 : q18) := (decide (q398 p0) = true -> (decide (q398 p0) == true) = true /\ (decide (q398 p0) == true) = true /\ True)
abbrev q186 (p0 : q18) := (wiZ p0.1 /\ wiZ p0.2.1 /\ wiZ p0.2.2.1 /\ wiZ p0.2.2.2.1 /\ True)
abbrev q399 (p0 : q19) := (decide (p0.2.2.1 = q482) == true)
abbrev q187 (p0 : q19) := (decide (p0.2.2.1 = q379) = true -> (q399 p0) = true /\ (q399 p0) = true /\ True)
abbrev q403 := (Kd.pair q494 (Kd.sl (Kd.int IntKind.u8)))
abbrev q188 (p0 : q19) := (Kd.wf q403 p0.1 /\ wiZ p0.2.1 /\ wiZ p0.2.2.1 /\ True)
abbrev q189 (p0 : q19) := (p0.2.2.1 = q379)
abbrev q401 (p0 : q1) (p1 : q1) (p2 : q19) := (wrZ (p0.1 + p1.1) + (lnZ p2.1.2))
abbrev q447 (p0 : q19) (p1 : q5) (p2 : Int × Unit -> Unit × (Int × Unit) × (List Int × Unit) × List (Int × List Int) × Unit -> Prop) (p3 : q1) (p4 : Unit × (Int × Unit) × (List Int × Unit)
  × List (Int × List Int) × Unit) (p5 : Int × Unit -> Unit × (Int × Unit) × (List Int × Unit) × List (Int × List Int) × Unit -> Nat) := ((True /\ (∀ (y_2 : q1), (wiZ y_2.1 /\ True) -> y_2.1 =
  sizeD (lnZ p0.1.2) -> (((q482 = q482 /\ q482 = q482 /\ Value.slice none q493 q493 = Value.slice none q493 q493 /\ p1.1 = p1.1 /\ p2 (wrZ (p3.1 + p0.2.1), ()) ((), (wrZ (wrZ (p3.1 + y_2.1) +
  (lnZ p0.1.2)), ()), (p4.2.2.1.1, ()), p4.2.2.2.1 ++ [(p0.1.1, p0.1.2)], ()) /\ p5 (wrZ (p3.1 + p0.2.1), ()) ((), (wrZ (wrZ (p3.1 + y_2.1) + (lnZ p0.1.2)), ()), (p4.2.2.1.1, ()), p4.2.2.2.1
  ++ [(p0.1.1, p0.1.2)], ()) < p5 p3 p4) /\ True) /\ True) /\ True) /\ True) /\ True)
abbrev q190 (p0 : q19) (p1 : q5) (p2 : Int × Unit -> Unit × (Int × Unit) × (List Int × Unit) × List (Int × List Int) × Unit -> Prop) (p3 : q1) (p4 : Unit × (Int × Unit) × (List Int × Unit)
  × List (Int × List Int) × Unit) (p5 : Int × Unit -> Unit × (Int × Unit) × (List Int × Unit) × List (Int × List Int) × Unit -> Nat) := (((True /\ (∀ (y_2 : q1), (wiZ y_2.1 /\ True) -> y_2.1
  = sizeD (lnZ p0.1.2) -> ((((q379 = q379 /\ q379 = q379 /\ Value.slice none q402 q402 = Value.slice none q402 q402 /\ p1.1 = p1.1 /\ p2 (wrZ (p3.1 + p0.2.1), ()) ((), (wrZ (q401 p3 y_2 p0),
  ()), (p4.2.2.1.1, ()), p4.2.2.2.1 ++ [(p0.1.1, p0.1.2)], ()) /\ p5 (wrZ (p3.1 + p0.2.1), ()) ((), (wrZ (q401 p3 y_2 p0), ()), (p4.2.2.1.1, ()), p4.2.2.2.1 ++ [(p0.1.1, p0.1.2)], ()) < p5 p3
  p4) /\ True) /\ True) /\ True) /\ ((((q379 = q379 /\ q379 = q379 /\ Value.slice none q402 q402 = Value.slice none q402 q402 /\ p1.1 = p1.1 /\ p2 (wrZ (p3.1 + p0.2.1), ()) ((), (wrZ (q401 p3
  y_2 p0), ()), (p4.2.2.1.1, ()), p4.2.2.2.1 ++ [(p0.1.1, p0.1.2)], ()) /\ p5 (wrZ (p3.1 + p0.2.1), ()) ((), (wrZ (q401 p3 y_2 p0), ()), (p4.2.2.1.1, ()), p4.2.2.2.1 ++ [(p0.1.1, p0.1.2)],
  ()) < p5 p3 p4) /\ True) /\ True) /\ True) /\ True) /\ True) /\ (q447 p0 p1 p2 p3 p4 p5) /\ True) /\ ((q447 p0 p1 p2 p3 p4 p5) /\ True) /\ True)
abbrev q448 := (65536 : Nat)
abbrev q191 (p0 : Unit × (Int × Unit) × (List Int × Unit) × List (Int × List Int) × Unit) (p1 : q5) := (decide (p0.2.1.1 = (lnZ p1.1)) = false -> (q379 <= p0.2.1.1 /\ p0.2.1.1 <= (lnZ
  p1.1)) /\ lenB (List.drop (Int.toNat p0.2.1.1) p1.1) <= (1000000000 : Nat) /\ (∀ (y : q19), (Kd.wf q403 y.1 /\ wiZ y.2.1 /\ wiZ y.2.2.1 /\ True) -> (y.1, y.2.1, y.2.2.1) = takeD (List.drop
  (Int.toNat p0.2.1.1) p1.1) -> (2 : Nat) <= q448 /\ ([], p0.2.1.1, y.2.2.1) = allD p1.1) /\ True)
abbrev q192 := (Kd.sl q403)
abbrev q193 := (List Int × Unit)
abbrev q194 := (Int × List Int)
abbrev q395 := (255 : Int)
abbrev q400 (p0 : q19) (p1 : q5) (p2 : Int × Unit -> Unit × (Int × Unit) × q193 × List q194 × Unit -> Prop) (p3 : q1) (p4 : Unit × (Int × Unit) × q193 × List q194 × Unit) (p5 : Int × Unit
  -> Unit × (Int × Unit) × q193 × List q194 × Unit -> Nat) := ((True /\ (∀ (y_2 : q1), (wiZ y_2.1 /\ True) -> y_2.1 = sizeD (lnZ p0.1.2) -> (((q482 = q482 /\ q482 = q482 /\ Value.slice none
  q493 q493 = Value.slice none q493 q493 /\ p1.1 = p1.1 /\ p2 (wrZ (p3.1 + p0.2.1), ()) ((), (wrZ (wrZ (p3.1 + y_2.1) + (lnZ p0.1.2)), ()), (p4.2.2.1.1, ()), p4.2.2.2.1 ++ [(p0.1.1, p0.1.2)],
  ()) /\ p5 (wrZ (p3.1 + p0.2.1), ()) ((), (wrZ (wrZ (p3.1 + y_2.1) + (lnZ p0.1.2)), ()), (p4.2.2.1.1, ()), p4.2.2.2.1 ++ [(p0.1.1, p0.1.2)], ()) < p5 p3 p4) /\ True) /\ True) /\ True) /\
  True) /\ True)
def t134 : Prop :=
  ∀ (x : q1), (q36 x) -> True -> (decide (q39 x) = true -> True) /\ (decide (q39 x) = true -> (decide (q39 x) == true) = true /\ True) /\ (decide (q39 x) = true -> (decide (q39 x) == true) =
  true) /\ ((q394 x) = true -> True) /\ (q157 x) /\ (q157 x) /\ ((q394 x) = true -> ((q394 x) == true) = true) /\ (bif bif decide (q39 x) then decide (x.1 <= q395) else false then decide (wrZ
  (↑(BitVec.toNat (BitVec.ofInt (64 : Nat) x.1 &&& BitVec.ofInt (64 : Nat) (31 : Int))) : Int) ≠ (31 : Int)) else false) = isTagD x.1
theorem e134 : t134 = Con.vc c_der_isTag GL (mkEnv ty [] [] [] [0, 2]) {} Tryz.f134.ntmps Tryz.f134.results.toList (bodyOf Tryz.f134) := by kernel_rfl
theorem k134 : t134 := by
  unfold t134
  delta q1 q36 q39 q394 q157 q395 wrZ wiZ q379 q482
  rintro ⟨t, _⟩ hx hp
  try dsimp +instances only [dft_int, dft_sl, dft_str]
  simp only [true_and, and_true, eq_self_iff_true, implies_true, reduceCtorEq, false_implies, true_implies, decide_eq_true_eq, decide_eq_false_iff_not, beq_self_eq_true, Bool.not_eq_true', ne_eq, Decidable.not_not, List.nil_append, List.length_singleton, List.length_cons, List.length_nil, Nat.zero_add, Nat.add_zero, Nat.mul_one, and_self, beq_iff_eq, Bool.not_true, Bool.not_false, Bool.not_eq_false', Bool.cond_false_right, Bool.and_eq_true, imp_self, Bool.not_eq_true, Bool.cond_true_left, Bool.or_eq_true]
  exact isTag_eq t
theorem h134 : c_der_isTag.ok Tryz.prog GL 134 := con_ok (H := {}) (mkEnv_ok (gl := GL) (l := []) (q := []) (d := []) _ tyOk (by kernel_rfl) trivial trivial trivial) (by kernel_rfl) (by kernel_rfl) (Eq.mp e134 k134)
def t136 : Prop :=
  ∀ (x : q1), (q36 x) -> q40 <= x.1 /\ x.1 <= (16777215 : Int) -> (decide (x.1 < q96) = true -> [IntKind.wrap IntKind.u8 x.1] = lngD x.1) /\ (decide (x.1 < q96) = false -> (decide (x.1 < (256
  : Int)) = true -> [(129 : Int), IntKind.wrap IntKind.u8 x.1] = lngD x.1) /\ (decide (x.1 < (256 : Int)) = false -> (decide (x.1 < (65536 : Int)) = true -> q40 <= q125 /\ [(130 : Int),
  IntKind.wrap IntKind.u8 (Int.fdiv x.1 (q75 ^ q480)), IntKind.wrap IntKind.u8 x.1] = lngD x.1) /\ (decide (x.1 < (65536 : Int)) = false -> q40 <= (16 : Int) /\ q40 <= q125 /\ [(131 : Int),
  IntKind.wrap IntKind.u8 (Int.fdiv x.1 (q75 ^ (16 : Nat))), IntKind.wrap IntKind.u8 (Int.fdiv x.1 (q75 ^ q480)), IntKind.wrap IntKind.u8 x.1] = lngD x.1)))
theorem e136 : t136 = Con.vc c_der_length GL (mkEnv ty [] [] [] [0, 2, 3, 9, 15]) {} Tryz.f136.ntmps Tryz.f136.results.toList (bodyOf Tryz.f136) := by kernel_rfl
theorem k136 : t136 := by
  unfold t136
  delta q1 q36 q40 q96 q125 q75 q480 wiZ
  rintro ⟨n, _⟩ hx hp
  obtain ⟨h0, h1⟩ := hp
  simp only at h0 h1
  try dsimp +instances only [dft_int, dft_sl, dft_str]
  simp only [true_and, and_true, eq_self_iff_true, implies_true, reduceCtorEq, false_implies, true_implies, decide_eq_true_eq, decide_eq_false_iff_not, beq_self_eq_true, Bool.not_eq_true', ne_eq, Decidable.not_not, List.nil_append, List.length_singleton, List.length_cons, List.length_nil, Nat.zero_add, Nat.add_zero, Nat.mul_one, and_self, beq_iff_eq, Bool.not_true, Bool.not_false, Bool.not_eq_false', Bool.cond_false_right, Bool.and_eq_true, imp_self, Bool.not_eq_true, Bool.cond_true_left, Bool.or_eq_true]
  have e8 := (fdiv_pow h0).1
  have e16 := (fdiv_pow h0).2
  rw [e8, e16, wrap_u8m, wrap_u8m, wrap_u8m]
  refine ⟨fun h => ?_, fun h => ⟨fun h2 => ?_, fun h2 => ⟨fun h3 => ⟨by decide, ?_⟩, fun h3 => ⟨by decide, by decide, ?_⟩⟩⟩⟩
  . rw [lngD, if_pos h, show n % 256 = n by omega]
  . rw [lngD, if_neg h, if_pos h2, show n % 256 = n by omega]
  . rw [lngD, if_neg h, if_neg h2, if_pos h3, show n / 256 % 256 = n / 256 by omega]
  . rw [lngD, if_neg h, if_neg h2, if_neg h3, show n / 65536 % 256 = n / 65536 by omega]
theorem h136 : c_der_length.ok Tryz.prog GL 136 := con_ok (H := {}) (mkEnv_ok (gl := GL) (l := []) (q := []) (d := []) _ tyOk (by kernel_rfl) trivial trivial trivial) (by kernel_rfl) (by kernel_rfl) (Eq.mp e136 k136)
def t123 : Prop :=
  ∀ (x : q5), (q160 x) -> lenB x.1 <= q84 -> ∀ (b : Bool), (b = true -> x.1 = []) -> (b = true -> [] = x.1) /\ (b = false -> q71 < q42 /\ (q71 + List.length x.1) * q42 <= q159 /\ q71 +
  List.length x.1 <= q158 /\ [] ++ x.1 = x.1)
theorem e123 : t123 = Con.vc c_slices_Clone_byte_byte GL (mkEnv ty [] [] [] [0, 2, 4]) {} Tryz.f123.ntmps Tryz.f123.results.toList (bodyOf Tryz.f123) := by kernel_rfl
theorem k123 : t123 := by
  unfold t123
  delta q5 q160 q84 q71 q42 q159 q158 wyZ
  rintro ⟨l, _⟩ hx hp
  have hp : l.length ≤ 1000000000 := hp
  try dsimp +instances only [dft_int, dft_sl, dft_str]
  simp only [true_and, and_true, eq_self_iff_true, implies_true, reduceCtorEq, false_implies, true_implies, decide_eq_true_eq, decide_eq_false_iff_not, beq_self_eq_true, Bool.not_eq_true', ne_eq, Decidable.not_not, List.nil_append, List.length_singleton, List.length_cons, List.length_nil, Nat.zero_add, Nat.add_zero, Nat.mul_one, and_self, beq_iff_eq, Bool.not_true, Bool.not_false, Bool.not_eq_false', Bool.cond_false_right, Bool.and_eq_true, imp_self, Bool.not_eq_true, Bool.cond_true_left, Bool.or_eq_true]
  intro b hb
  exact ⟨fun h => (hb h).symm, fun _ => ⟨by decide, by omega, by omega⟩⟩
theorem h123 : c_slices_Clone_byte_byte.ok Tryz.prog GL 123 := con_ok (H := {}) (mkEnv_ok (gl := GL) (l := []) (q := []) (d := []) _ tyOk (by kernel_rfl) trivial trivial trivial) (by kernel_rfl) (by kernel_rfl) (Eq.mp e123 k123)
noncomputable def i167 : CallSem := cutSem <| vcFn (mkEnv ty [] [] [] [0, 1, 4, 6, 16]) {} Tryz.f167.ntmps Tryz.f167.results.toList (bodyOf Tryz.f167)
theorem i167_ok : CallOk Tryz.prog GL 167 i167 := cut_ok <| inl_ok {} (mkEnv_ok (gl := GL) (l := []) (q := []) (d := []) _ tyOk (by kernel_rfl) trivial trivial trivial) (by kernel_rfl) (by kernel_rfl)
def t135 : Prop :=
  ∀ (x : q15), (Kd.wf q164 x.1 /\ True) -> lenF x.1 <= q84 -> ∃ (I : q10), ∃ (μ : q11), ((lnZ x.1) = (lnZ x.1) /\ x.1 = x.1 /\ Value.slice none q71 q71 = Value.slice none q71 q71 /\ x.1 = x.1
  /\ I (q40, q40, ()) ()) /\ ∀ (y : q6) (z : Unit), (q94 y) -> True -> I y z -> (decide (y.1 < (lnZ x.1)) = true -> (q40 <= y.1 /\ y.1 < (lnZ x.1)) /\ (decide (wrZ (q163 y x) < q40) = true ->
  False) /\ (decide (wrZ (q163 y x) < q40) = false -> (lnZ x.1) = (lnZ x.1) /\ x.1 = x.1 /\ Value.slice none q71 q71 = Value.slice none q71 q71 /\ x.1 = x.1 /\ I (wrZ (q95 y), wrZ (q163 y x),
  ()) () /\ μ (wrZ (q95 y), wrZ (q163 y x), ()) () < μ y z)) /\ (decide (y.1 < (lnZ x.1)) = false -> (decide (y.2.1 < q40) = true -> False) /\ (decide (y.2.1 < q40) = false -> (decide (q40 <
  wrZ (q396 y)) = true -> (q40 <= q40 /\ q40 <= (↑q71 : Int)) /\ q40 < wrZ (q396 y) /\ wrZ (q396 y) <= (1000000000 : Int) /\ (q40 <= q40 /\ q40 <= (lnZ (q162 y))) /\ q71 = q71 /\ ∃ (I : q16),
  ∃ (μ : q17), ((lnZ x.1) = (lnZ x.1) /\ x.1 = x.1 /\ Value.bool false = Value.bool false /\ y.1 = y.1 /\ (lnZ x.1) = (lnZ x.1) /\ x.1 = x.1 /\ y.2.1 = y.2.1 /\ Value.slice none q71 q71 =
  Value.slice none q71 q71 /\ x.1 = x.1 /\ I (q40, ()) (List.take (q71 - q71) (q162 y), ())) /\ ∀ (y_1 : q1) (z : q5), (q36 y_1) -> (q160 z) -> I y_1 z -> (q161 y_1 x z y I μ) /\ (decide
  (y_1.1 < (lnZ x.1)) = false -> z.1 = List.flatten x.1)) /\ (decide (q40 < wrZ (q396 y)) = false -> ∃ (I : q16), ∃ (μ : q17), ((lnZ x.1) = (lnZ x.1) /\ x.1 = x.1 /\ Value.bool false =
  Value.bool false /\ y.1 = y.1 /\ (lnZ x.1) = (lnZ x.1) /\ x.1 = x.1 /\ y.2.1 = y.2.1 /\ Value.slice none q71 q71 = Value.slice none q71 q71 /\ x.1 = x.1 /\ I (q40, ()) ([], ())) /\ ∀ (y_1 :
  q1) (z : q5), (q36 y_1) -> (q160 z) -> I y_1 z -> (q161 y_1 x z y I μ) /\ (decide (y_1.1 < (lnZ x.1)) = false -> z.1 = List.flatten x.1))))
theorem e135 : t135 = Con.vc c_slices_Concat_byte_byte GL (mkEnv ty [(167, i167)] [] [] [0, 2, 3, 5, 6, 8, 9, 10, 11, 12, 20, 25, 26, 27, 28]) {} Tryz.f135.ntmps Tryz.f135.results.toList (bodyOf Tryz.f135) := by kernel_rfl
theorem k135 : t135 := by
  unfold t135
  delta q15 q164 q84 q10 q11 lnZ q71 q40 q6 q94 wrZ q163 q95 q396 q162 q16 q17 q1 q5 q36 q160 q161 q404 wiZ q441 q417 q482 q429 wyZ q379 q402 q387 q377 q419 q418 q488
  rintro ⟨xs, _⟩ hx hp
  have hp : xs.flatten.length ≤ 1000000000 := hp
  have hl : xs.length ≤ 9223372036854775807 := hx.1.1
  try dsimp +instances only [dft_int, dft_sl, dft_str]
  simp only [true_and, and_true, eq_self_iff_true, implies_true, reduceCtorEq, false_implies, true_implies, decide_eq_true_eq, decide_eq_false_iff_not, beq_self_eq_true, Bool.not_eq_true', ne_eq, Decidable.not_not, List.nil_append, List.length_singleton, List.length_cons, List.length_nil, Nat.zero_add, Nat.add_zero, Nat.mul_one, and_self, beq_iff_eq, Bool.not_true, Bool.not_false, Bool.not_eq_false', Bool.cond_false_right, Bool.and_eq_true, imp_self, Bool.not_eq_true, Bool.cond_true_left, Bool.or_eq_true]
  refine ⟨fun y z => 0 ≤ y.1 ∧ y.1 ≤ xs.length ∧ y.2.1 = ((xs.take y.1.toNat).flatten.length : Int), fun y z => xs.length - y.1.toNat, ⟨Int.le_refl 0, by simp only; omega, by simp⟩, ?_⟩
  rintro ⟨i, s, _⟩ z hy ⟨h0, h1, h2⟩
  simp only at h0 h1 h2 ⊢
  have hs := flat_bound xs i.toNat
  refine ⟨fun hlt => ?_, fun hge => ⟨fun h => by omega, fun _ => ⟨fun hpos => ?_, fun _ => flat_loop xs hl hp [] rfl⟩⟩⟩
  . have e := take_flat xs i.toNat (by omega)
    have hfl := flat_bound xs (i.toNat + 1)
    rw [e, List.length_append] at hfl
    have hw : IntKind.wrap .i64 (i + 1) = i + 1 := wrapM _ (by omega) (by omega)
    have hw2 : IntKind.wrap .i64 (s + ((xs.getD i.toNat []).length : Int)) = s + ((xs.getD i.toNat []).length : Int) := wrapK _ (by omega) (by omega)
    rw [hw, hw2]
    refine ⟨⟨h0, hlt⟩, fun h => by omega, fun _ => ⟨⟨by omega, by omega, ?_⟩, by omega⟩⟩
    rw [show (i + 1).toNat = i.toNat + 1 by omega, e, List.length_append]
    omega
  . have hw3 : IntKind.wrap .i64 (s - IntKind.wrap .i64 (0 - 0)) = s := by rw [show IntKind.wrap .i64 (0 - 0) = 0 by decide, wrapK _ (by omega) (by omega)]; omega
    rw [hw3] at hpos ⊢
    exact ⟨⟨by decide, by decide⟩, hpos, by omega, ⟨by decide, by omega⟩, flat_loop xs hl hp _ (by simp)⟩
theorem h135 : c_slices_Concat_byte_byte.ok Tryz.prog GL 135 := con_ok (H := {}) (mkEnv_ok (gl := GL) (l := [(167, i167)]) (q := []) (d := []) _ tyOk (by kernel_rfl) ⟨i167_ok, trivial⟩ trivial trivial) (by kernel_rfl) (by kernel_rfl) (Eq.mp e135 k135)
def t95 : Prop :=
  ∀ (x : List Int × Int × List (List Int) × Unit), (wyZ x.1 /\ wiZ x.2.1 /\ Kd.wf q164 x.2.2.1 /\ True) -> lenB x.1 <= (900000000 : Nat) -> True /\ (∀ (y : q4), (q47 y) -> y.1 = isTagD x.2.1
  -> ((!y.1) = true -> ([], q75) = PutD x.1 x.2.1 (List.flatten x.2.2.1)) /\ ((!y.1) = false -> ∃ (I : Int × Int × Int × Unit -> List Int × Unit -> Prop), ∃ (μ : Int × Int × Int × Unit ->
  List Int × Unit -> Nat), ((lnZ x.2.2.1) = (lnZ x.2.2.1) /\ x.2.2.1 = x.2.2.1 /\ Value.bool false = Value.bool false /\ x.1 = x.1 /\ x.2.1 = x.2.1 /\ x.2.2.1 = x.2.2.1 /\ I (q40, q40, q40,
  ()) ([], ())) /\ ∀ (y : Int × Int × Int × Unit) (z : q5), (wiZ y.1 /\ wiZ y.2.1 /\ wiZ y.2.2.1 /\ True) -> (q160 z) -> I y z -> (decide (y.1 < (lnZ x.2.2.1)) = true -> (q40 <= y.1 /\ y.1 <
  (lnZ x.2.2.1)) /\ (decide (wrZ ((16777215 : Int) - y.2.1) < (q165 x y)) = true -> ([], (3 : Int)) = PutD x.1 x.2.1 (List.flatten x.2.2.1)) /\ (decide (wrZ ((16777215 : Int) - y.2.1) < (q165
  x y)) = false -> (lnZ x.2.2.1) = (lnZ x.2.2.1) /\ x.2.2.1 = x.2.2.1 /\ Value.bool false = Value.bool false /\ x.1 = x.1 /\ x.2.1 = x.2.1 /\ x.2.2.1 = x.2.2.1 /\ I (wrZ (y.1 + q72), wrZ
  (y.2.1 + (q165 x y)), y.2.2.1, ()) (z.1, ()) /\ μ (wrZ (y.1 + q72), wrZ (y.2.1 + (q165 x y)), y.2.2.1, ()) (z.1, ()) < μ y z)) /\ (decide (y.1 < (lnZ x.2.2.1)) = false -> (q40 <= y.2.1 /\
  y.2.1 <= (16777215 : Int)) /\ (∀ (y_1 : q5), (q160 y_1) -> y_1.1 = lngD y.2.1 -> lenF [x.1, [IntKind.wrap IntKind.u8 x.2.1], y_1.1] <= q84 /\ (∀ (y : q5), (q160 y) -> y.1 = List.flatten
  [x.1, [IntKind.wrap IntKind.u8 x.2.1], y_1.1] -> lenF x.2.2.1 <= q84 /\ (∀ (y_2 : q5), (q160 y_2) -> y_2.1 = List.flatten x.2.2.1 -> lenF [y.1, y_2.1] <= q84 /\ (∀ (y_3 : q5), (q160 y_3) ->
  y_3.1 = List.flatten [y.1, y_2.1] -> (y_3.1, q40) = PutD x.1 x.2.1 (List.flatten x.2.2.1)) /\ True) /\ True) /\ True) /\ True))) /\ True
theorem e95 : t95 = Con.vc c_der_Put GL (mkEnv ty [(134, conSem c_der_isTag), (136, conSem c_der_length), (135, conSem c_slices_Concat_byte_byte)] [] [] [0, 1, 2, 6, 7, 8, 10, 11, 14, 15, 16, 17, 18, 25]) {} Tryz.f95.ntmps Tryz.f95.results.toList (bodyOf Tryz.f95) := by kernel_rfl
theorem k95 : t95 := by
  unfold t95
  delta wyZ wiZ q164 q4 q47 q75 lnZ q40 q5 q160 wrZ q165 q72 q84 q404 wbZ q441 q488
  rintro ⟨b, t, cs, _⟩ hx hp
  have hp : b.length ≤ 900000000 := hp
  have hcl : cs.length ≤ 9223372036854775807 := hx.2.2.1.1
  try dsimp +instances only [dft_int, dft_sl, dft_str]
  simp only [true_and, and_true, eq_self_iff_true, implies_true, reduceCtorEq, false_implies, true_implies, decide_eq_true_eq, decide_eq_false_iff_not, beq_self_eq_true, Bool.not_eq_true', ne_eq, Decidable.not_not, List.nil_append, List.length_singleton, List.length_cons, List.length_nil, Nat.zero_add, Nat.add_zero, Nat.mul_one, and_self, beq_iff_eq, Bool.not_true, Bool.not_false, Bool.not_eq_false', Bool.cond_false_right, Bool.and_eq_true, imp_self, Bool.not_eq_true, Bool.cond_true_left, Bool.or_eq_true]
  rintro ⟨q, _⟩ _ eq
  simp only at eq ⊢
  subst eq
  refine ⟨fun h => by rw [PutD, if_pos h], fun h => ?_⟩
  refine ⟨fun y _ => 0 ≤ y.1 ∧ y.1 ≤ cs.length ∧ y.2.1 = ((cs.take y.1.toNat).flatten.length : Int) ∧ y.2.1 ≤ 16777215, fun y _ => ((cs.length : Int) - y.1).toNat, ⟨Int.le_refl 0, by simp only; omega, by simp, by decide⟩, ?_⟩
  rintro ⟨i, s, k, _⟩ _ _ _ ⟨h0, h1, h2, h3⟩
  simp only at h0 h1 h2 h3 ⊢
  refine ⟨fun hlt => ?_, fun hge => ?_⟩
  . have e := take_flat cs i.toNat (by omega)
    have hl := flat_bound cs (i.toNat + 1)
    rw [e, List.length_append] at hl
    rw [wrapK (16777215 - s) (by omega) (by omega), wrapM (i + 1) (by omega) (by omega)]
    refine ⟨⟨h0, hlt⟩, fun hb => ?_, fun hb => ?_⟩
    . rw [PutD, if_neg (by rw [h]; decide), if_pos (by omega)]
    . rw [wrapK (s + ((cs.getD i.toNat []).length : Int)) (by omega) (by omega)]
      refine ⟨⟨by omega, by omega, ?_, by omega⟩, by omega⟩
      rw [show (i + 1).toNat = i.toNat + 1 by omega, e, List.length_append]
      omega
  . have hs : s = (cs.flatten.length : Int) := by rw [h2, List.take_of_length_le (by omega)]
    have hll := lng_len (n := s)
    refine ⟨⟨by omega, h3⟩, ?_⟩
    rintro ⟨l, _⟩ _ el
    simp only at el ⊢
    subst el
    refine ⟨by simp only [lenF, List.flatten_cons, List.flatten_nil, List.length_append, List.length_cons, List.length_nil]; omega, ?_⟩
    rintro ⟨o, _⟩ _ eo
    simp only at eo ⊢
    refine ⟨by rw [lenF]; omega, ?_⟩
    rintro ⟨c, _⟩ _ ec
    simp only at ec ⊢
    have hol : o.length = b.length + 1 + (lngD s).length := by rw [eo]; simp; omega
    refine ⟨by simp only [lenF, List.flatten_cons, List.flatten_nil, List.length_append, List.length_nil]; rw [ec]; omega, ?_⟩
    rintro ⟨r, _⟩ _ er
    simp only at er ⊢
    obtain ⟨t0, t1, _⟩ := tag_range h
    rw [PutD, if_neg (by rw [h]; decide), if_neg (by omega), er, eo, ec, wrap8 t t0 t1, putB]
    simp only
    rw [← hs]
    simp
theorem h95 : c_der_Put.ok Tryz.prog GL 95 := con_ok (H := {}) (mkEnv_ok (gl := GL) (l := [(134, conSem c_der_isTag), (136, conSem c_der_length), (135, conSem c_slices_Concat_byte_byte)]) (q := []) (d := []) _ tyOk (by kernel_rfl) ⟨h134.call, h136.call, h135.call, trivial⟩ trivial trivial) (by kernel_rfl) (by kernel_rfl) (Eq.mp e95 k95)
def t158 : Prop :=
  ∀ (x : q5), (q160 x) -> lenB x.1 <= q84 -> (decide ((lnZ x.1) = q40) = true -> (q40, q40, q40, (10 : Int)) = headK x.1) /\ (decide ((lnZ x.1) = q40) = false -> (q64 x) /\ True /\ (∀ (y :
  q4), (q47 y) -> y.1 = isTagD (wrZ (q182 x)) -> ((!y.1) = true -> (q40, q40, q40, (11 : Int)) = headK x.1) /\ ((!y.1) = false -> (decide ((lnZ x.1) = q72) = true -> (q40, q40, q40, (10 :
  Int)) = headK x.1) /\ (decide ((lnZ x.1) = q72) = false -> (q65 x) /\ (decide (wrZ (q181 x) < q40) = true -> (q64 x) /\ (q65 x) /\ (wrZ (q182 x), q75, wrZ (q183 x), q40) = headK x.1) /\
  (decide (wrZ (q181 x) < q40) = false -> (decide (q179 x) = false -> True) /\ (decide (q179 x) = false -> (q177 x) = true /\ True) /\ (decide (q179 x) = false -> (q177 x) = true) /\ (q172 x)
  /\ (q168 x) /\ (q168 x) /\ (q172 x) /\ ((q169 x) = true -> decide (q184 x) = true -> True) /\ ((q169 x) = true -> decide (q184 x) = true -> (q167 x) = true /\ (q40 <= q75 /\ q75 < (lnZ
  x.1)) /\ True) /\ (q166 x) /\ (q166 x) /\ ((q173 x) = false -> (q169 x) = true /\ (decide (q184 x) = true -> (q167 x) = true) /\ True) /\ ((q173 x) = false -> (q397 x) = true) /\ ((q170 x)
  = true -> (q40, q40, q40, q70) = headK x.1) /\ ((q170 x) = false -> (decide (q178 x) = true -> (q40, q40, q40, (10 : Int)) = headK x.1) /\ (decide (q178 x) = false -> (q40 <= q75 /\ q75 <=
  wrZ (q180 x) /\ wrZ (q180 x) <= (lnZ x.1)) /\ ∃ (I : q10), ∃ (μ : q11), ((q175 x) = (q175 x) /\ List.drop q74 (q176 x) = List.drop q74 (q176 x) /\ Value.bool false = Value.bool false /\
  Value.bool false = Value.bool false /\ Value.bool false = Value.bool false /\ wrZ (q181 x) = wrZ (q181 x) /\ Value.bool false = Value.bool false /\ Value.bool false = Value.bool false /\
  Value.bool false = Value.bool false /\ q40 = q40 /\ q40 = q40 /\ q40 = q40 /\ x.1 = x.1 /\ I (q40, q40, ()) ()) /\ ∀ (y : q6) (z : Unit), (q94 y) -> True -> I y z -> (decide (q174 y x) =
  true -> (q40 <= y.1 /\ y.1 < (q175 x)) /\ q40 <= q125 /\ (q175 x) = (q175 x) /\ List.drop q74 (q176 x) = List.drop q74 (q176 x) /\ Value.bool false = Value.bool false /\ Value.bool false =
  Value.bool false /\ Value.bool false = Value.bool false /\ wrZ (q181 x) = wrZ (q181 x) /\ Value.bool false = Value.bool false /\ Value.bool false = Value.bool false /\ Value.bool false =
  Value.bool false /\ q40 = q40 /\ q40 = q40 /\ q40 = q40 /\ x.1 = x.1 /\ I (wrZ (q95 y), wrZ (q171 y x), ()) () /\ μ (wrZ (q95 y), wrZ (q171 y x), ()) () < μ y z) /\ (decide (q174 y x) =
  false -> (decide (y.2.1 < q96) = true -> (q40, q40, q40, q70) = headK x.1) /\ (decide (y.2.1 < q96) = false -> (q64 x) /\ (wrZ (q182 x), wrZ (q180 x), y.2.1, q40) = headK x.1)))))))) /\
  True)
theorem e158 : t158 = Con.vc c_der_head GL (mkEnv ty [(134, conSem c_der_isTag)] [] [] [0, 2, 3, 4, 5, 6, 8, 9, 13, 20, 29, 40, 58, 67, 68, 69, 70, 80]) {} Tryz.f158.ntmps Tryz.f158.results.toList (bodyOf Tryz.f158) := by kernel_rfl
theorem k158 : t158 := by
  unfold t158
  delta q5 q160 q84 lnZ q40 q64 q4 q47 wrZ q182 q72 q65 q181 q75 q183 q179 q177 q172 q168 q169 q184 q167 q166 q173 q397 q170 q70 q178 q180 q10 q11 q175 q74 q176 q6 q94 q174 q125 q95 q171 q96 wyZ q379 wbZ q402 q429 q417 q446 q487 q387 q490 q443 q442 q428 q444 q482 q511 q445 q489 wiZ q480 q488
  rintro ⟨b, _⟩ hx hp
  have hp : b.length ≤ 1000000000 := hp
  have hb : Bys b := sl_bys hx.1
  try dsimp +instances only [dft_int, dft_sl, dft_str]
  simp only [true_and, and_true, eq_self_iff_true, implies_true, reduceCtorEq, false_implies, true_implies, decide_eq_true_eq, decide_eq_false_iff_not, beq_self_eq_true, Bool.not_eq_true', ne_eq, Decidable.not_not, List.nil_append, List.length_singleton, List.length_cons, List.length_nil, Nat.zero_add, Nat.add_zero, Nat.mul_one, and_self, beq_iff_eq, Bool.not_true, Bool.not_false, Bool.not_eq_false', Bool.cond_false_right, Bool.and_eq_true, imp_self, Bool.not_eq_true, Bool.cond_true_left, Bool.or_eq_true]
  have b0 := bys_get hb 0
  have b1 := bys_get hb 1
  rw [wrapK (b.getD 0 0) (by omega) (by omega), wrapK (b.getD 1 0) (by omega) (by omega), wrapK (b.getD 1 0 - 128) (by omega) (by omega), wrapK (2 + (b.getD 1 0 - 128)) (by omega) (by omega)]
  have hnil : b = [] ↔ (b.length : Int) = 0 := ⟨fun h => by rw [h]; rfl, fun h => List.eq_nil_of_length_eq_zero (by omega)⟩
  unfold headK
  refine ⟨fun h => by rw [if_pos (hnil.2 h)], fun h => ⟨⟨by decide, by omega⟩, ?_⟩⟩
  rw [if_neg (fun e => h (hnil.1 e))]
  rintro ⟨q, _⟩ _ eq
  simp only at eq ⊢
  subst eq
  refine ⟨fun h1 => by rw [if_pos h1], fun h1 => ?_⟩
  rw [if_neg (by rw [h1]; decide)]
  refine ⟨fun h2 => by rw [if_pos (by omega)], fun h2 => ⟨⟨by decide, by omega⟩, fun h3 => ⟨⟨by decide, by omega⟩, ⟨by decide, by omega⟩, ?_⟩, fun h3 => ?_⟩⟩
  . rw [if_neg (by omega), if_pos (by omega)]
  rw [if_neg (by omega), if_neg (by omega)]
  refine ⟨fun g1 g2 => ⟨⟨g1, g2⟩, by decide, by omega⟩, fun g1 g2 => ⟨g1, g2⟩, fun g1 g2 => ⟨g1, g2⟩, fun g1 => ⟨g1, fun g2 => ⟨g1, g2⟩⟩, fun h4 => by rw [if_pos (by omega)], fun h4 => ?_⟩
  have h4' : ¬ (b.getD 1 0 = 128 ∨ 131 < b.getD 1 0 ∨ (2 < b.length ∧ b.getD 2 0 = 0)) := by
    simp only [Bool.or_eq_false_iff, Bool.and_eq_false_iff, decide_eq_false_iff_not] at h4
    omega
  rw [if_neg h4']
  refine ⟨fun h5 => by rw [if_pos h5], fun h5 => ⟨⟨by decide, by omega, by omega⟩, ?_⟩⟩
  rw [if_neg h5]
  have hsl : (b.take (2 + (b.getD 1 0 - 128)).toNat).drop 2 = (b.drop 2).take (b.getD 1 0 - 128).toNat := by
    rw [List.drop_take]
    congr 1
    omega
  rw [hsl]
  have hbl : Bys ((b.drop 2).take (b.getD 1 0 - 128).toNat) := bys_take (bys_drop hb 2) _
  have hll : ((b.drop 2).take (b.getD 1 0 - 128).toNat).length ≤ 3 := by rw [List.length_take]; omega
  generalize (b.drop 2).take (b.getD 1 0 - 128).toNat = l at hbl hll
  refine ⟨fun y _ => 0 ≤ y.1 ∧ y.1 ≤ l.length ∧ y.2.1 = numB (l.take y.1.toNat), fun y _ => ((l.length : Int) - y.1).toNat, ⟨Int.le_refl 0, by simp only; omega, rfl⟩, ?_⟩
  rintro ⟨i, n, _⟩ _ _ ⟨i0, i1, en⟩
  simp only at i0 i1 en ⊢
  refine ⟨fun hlt => ⟨⟨i0, hlt⟩, by decide, ?_⟩, fun hge => ?_⟩
  . have hnb := num_bound hbl (j := i.toNat) (by omega)
    rw [← en] at hnb
    rw [wrapK (i + 1) (by omega) (by omega), or8 (bys_get hbl _) hnb]
    refine ⟨⟨by omega, by omega, ?_⟩, by omega⟩
    rw [show (i + 1).toNat = i.toNat + 1 by omega, take_snoc l _ (by omega), num_snoc, en]
  . rw [List.take_of_length_le (by omega)] at en
    rw [en]
    exact ⟨fun h6 => by rw [if_pos h6], fun h6 => ⟨⟨by decide, by omega⟩, by rw [if_neg h6]⟩⟩
theorem h158 : c_der_head.ok Tryz.prog GL 158 := con_ok (H := {}) (mkEnv_ok (gl := GL) (l := [(134, conSem c_der_isTag)]) (q := []) (d := []) _ tyOk (by kernel_rfl) ⟨h134.call, trivial⟩ trivial trivial) (by kernel_rfl) (by kernel_rfl) (Eq.mp e158 k158)
def t119 : Prop :=
  ∀ (x : q5), (q160 x) -> lenB x.1 <= q84 -> q74 <= q69 /\ lenB x.1 <= q84 /\ (∀ (y : q18), (q186 y) -> (y.1, y.2.1, y.2.2.1, y.2.2.2.1) = headK x.1 -> (decide (q398 y) = true -> True) /\
  (decide (q398 y) = true -> (decide (q398 y) == true) = true /\ True) /\ (decide (q398 y) = true -> True) /\ (q185 y) /\ (decide (q398 y) = true -> True) /\ (q185 y) /\ (decide (q398 y) =
  true -> (decide (q398 y) == true) = true) /\ ((bif decide (q398 y) then decide (wrZ ((lnZ x.1) - y.2.1) < y.2.2.1) else false) = true -> (decide ((10 : Int) ≠ q40) = true -> ((q40, []),
  q40, (10 : Int)) = takeD x.1) /\ (decide ((10 : Int) ≠ q40) = false -> (q40 <= y.2.1 /\ y.2.1 <= wrZ (y.2.1 + y.2.2.1) /\ wrZ (y.2.1 + y.2.2.1) <= (lnZ x.1)) /\ lenB (List.drop (Int.toNat
  y.2.1) (List.take (Int.toNat (wrZ (y.2.1 + y.2.2.1))) x.1)) <= q84 /\ (∀ (y_1 : q5), (q160 y_1) -> y_1.1 = List.drop (Int.toNat y.2.1) (List.take (Int.toNat (wrZ (y.2.1 + y.2.2.1))) x.1) ->
  ((y.1, y_1.1), wrZ (y.2.1 + y.2.2.1), q40) = takeD x.1) /\ True)) /\ ((bif decide (q398 y) then decide (wrZ ((lnZ x.1) - y.2.1) < y.2.2.1) else false) = false -> (decide (y.2.2.2.1 ≠ q40) =
  true -> ((q40, []), q40, y.2.2.2.1) = takeD x.1) /\ (decide (y.2.2.2.1 ≠ q40) = false -> (q40 <= y.2.1 /\ y.2.1 <= wrZ (y.2.1 + y.2.2.1) /\ wrZ (y.2.1 + y.2.2.1) <= (lnZ x.1)) /\ lenB
  (List.drop (Int.toNat y.2.1) (List.take (Int.toNat (wrZ (y.2.1 + y.2.2.1))) x.1)) <= q84 /\ (∀ (y_1 : q5), (q160 y_1) -> y_1.1 = List.drop (Int.toNat y.2.1) (List.take (Int.toNat (wrZ
  (y.2.1 + y.2.2.1))) x.1) -> ((y.1, y_1.1), wrZ (y.2.1 + y.2.2.1), q40) = takeD x.1) /\ True))) /\ True
theorem e119 : t119 = Con.vc c_der_Take GL (mkEnv ty [(158, conSem c_der_head), (123, conSem c_slices_Clone_byte_byte)] [] [] [0, 2, 3, 4, 5, 6, 7, 8, 25, 27]) {} Tryz.f119.ntmps Tryz.f119.results.toList (bodyOf Tryz.f119) := by kernel_rfl
theorem k119 : t119 := by
  unfold t119
  delta q5 q160 q84 q74 q69 q18 q186 q398 q185 wrZ lnZ q40 wyZ wiZ q482
  rintro ⟨b, _⟩ hx hp
  have hp : b.length ≤ 1000000000 := hp
  have hb : Bys b := sl_bys hx.1
  try dsimp +instances only [dft_int, dft_sl, dft_str]
  simp only [true_and, and_true, eq_self_iff_true, implies_true, reduceCtorEq, false_implies, true_implies, decide_eq_true_eq, decide_eq_false_iff_not, beq_self_eq_true, Bool.not_eq_true', ne_eq, Decidable.not_not, List.nil_append, List.length_singleton, List.length_cons, List.length_nil, Nat.zero_add, Nat.add_zero, Nat.mul_one, and_self, beq_iff_eq, Bool.not_true, Bool.not_false, Bool.not_eq_false', Bool.cond_false_right, Bool.and_eq_true, imp_self, Bool.not_eq_true, Bool.cond_true_left, Bool.or_eq_true]
  refine ⟨by decide, hp, ?_⟩
  rintro ⟨t, f, n, e, _⟩ _ eh
  simp only at eh ⊢
  have k1 : (headK b).1 = t := by rw [← eh]
  have k2 : (headK b).2.1 = f := by rw [← eh]
  have k3 : (headK b).2.2.1 = n := by rw [← eh]
  have k4 : (headK b).2.2.2 = e := by rw [← eh]
  have hT : takeD b = if e ≠ 0 then ((0, []), 0, e) else if (b.length : Int) - f < n then ((0, []), 0, 10) else ((t, (b.drop f.toNat).take n.toNat), f + n, 0) := by rw [takeD, k1, k2, k3, k4]
  have hok : e = 0 → 2 ≤ f ∧ f ≤ 5 ∧ f ≤ b.length ∧ 0 ≤ n ∧ n ≤ 16777215 := fun h => by
    have := head_ok hb (by rw [k4]; exact h)
    rw [k2, k3] at this
    exact ⟨this.1, this.2.1, this.2.2.1, this.2.2.2.1, this.2.2.2.2.1⟩
  refine ⟨fun h => ⟨fun _ => ?_, fun h10 => by cases h10⟩, fun h => ⟨fun he => by rw [hT, if_pos he], fun he => ?_⟩⟩
  . obtain ⟨h1, h2⟩ := h
    have := hok h1
    rw [wrapK _ (by omega) (by omega)] at h2
    rw [hT, if_neg (by omega), if_pos h2]
  . have hk := hok he
    simp only [Bool.and_eq_false_iff, decide_eq_false_iff_not] at h
    have h := h.resolve_left (fun h => h he)
    rw [wrapK _ (by omega) (by omega)] at h
    rw [wrapK (f + n) (by omega) (by omega)]
    refine ⟨⟨by omega, by omega, by omega⟩, by rw [lenB, List.length_drop, List.length_take]; omega, ?_⟩
    rintro ⟨c, _⟩ _ ec
    simp only at ec ⊢
    rw [hT, if_neg (by omega), if_neg h, ec, List.drop_take, show (f + n).toNat - f.toNat = n.toNat by omega]
theorem h119 : c_der_Take.ok Tryz.prog GL 119 := con_ok (H := {}) (mkEnv_ok (gl := GL) (l := [(158, conSem c_der_head), (123, conSem c_slices_Clone_byte_byte)]) (q := []) (d := []) _ tyOk (by kernel_rfl) ⟨h158.call, h123.call, trivial⟩ trivial trivial) (by kernel_rfl) (by kernel_rfl) (Eq.mp e119 k119)
def t102 : Prop :=
  ∀ (x : q5), (q160 x) -> lenB x.1 <= q84 -> q74 <= q69 /\ lenB x.1 <= q84 /\ (∀ (y : q19), (q188 y) -> (y.1, y.2.1, y.2.2.1) = takeD x.1 -> q74 <= q69 /\ (decide (q189 y) = true -> True) /\
  (decide (q189 y) = true -> True) /\ (decide (q189 y) = true -> (q399 y) = true /\ True) /\ (q187 y) /\ (decide (q189 y) = true -> (q399 y) = true) /\ ((bif decide (q189 y) then decide
  (y.2.1 < (lnZ x.1)) else false) = true -> ((q40, []), (13 : Int)) = oneD x.1) /\ ((bif decide (q189 y) then decide (y.2.1 < (lnZ x.1)) else false) = false -> ((y.1.1, y.1.2), y.2.2.1) =
  oneD x.1)) /\ True
theorem e102 : t102 = Con.vc c_der_One GL (mkEnv ty [(119, conSem c_der_Take)] [] [] [0, 2, 3, 4, 5, 6, 20]) {} Tryz.f102.ntmps Tryz.f102.results.toList (bodyOf Tryz.f102) := by kernel_rfl
theorem k102 : t102 := by
  unfold t102
  delta q5 q160 q84 q74 q69 q19 q188 q189 q399 q187 lnZ q40 wyZ q403 wiZ q379 q482 q494
  rintro ⟨b, _⟩ hx hp
  have hp : b.length ≤ 1000000000 := hp
  try dsimp +instances only [dft_int, dft_sl, dft_str]
  simp only [true_and, and_true, eq_self_iff_true, implies_true, reduceCtorEq, false_implies, true_implies, decide_eq_true_eq, decide_eq_false_iff_not, beq_self_eq_true, Bool.not_eq_true', ne_eq, Decidable.not_not, List.nil_append, List.length_singleton, List.length_cons, List.length_nil, Nat.zero_add, Nat.add_zero, Nat.mul_one, and_self, beq_iff_eq, Bool.not_true, Bool.not_false, Bool.not_eq_false', Bool.cond_false_right, Bool.and_eq_true, imp_self, Bool.not_eq_true, Bool.cond_true_left, Bool.or_eq_true]
  refine ⟨by decide, hp, ?_⟩
  rintro ⟨⟨t, c⟩, n, e, _⟩ _ eT
  simp only at eT ⊢
  refine ⟨by decide, fun h => ?_, fun h => ?_⟩
  . rw [oneD, ← eT, if_pos h]
  . rw [oneD, ← eT, if_neg (fun hh => by simp only [Bool.and_eq_false_iff, decide_eq_false_iff_not] at h; exact h.elim (fun h => h hh.1) (fun h => h hh.2))]
theorem h102 : c_der_One.ok Tryz.prog GL 102 := con_ok (H := {}) (mkEnv_ok (gl := GL) (l := [(119, conSem c_der_Take)]) (q := []) (d := []) _ tyOk (by kernel_rfl) ⟨h119.call, trivial⟩ trivial trivial) (by kernel_rfl) (by kernel_rfl) (Eq.mp e102 k102)
def t118 : Prop :=
  ∀ (x : q1), (q36 x) -> True -> (decide (x.1 < q379) = false -> True) /\ (decide (x.1 < q379) = false -> (q141 x) = true /\ True) /\ (decide (x.1 < q379) = false -> (q141 x) = true) /\ ((bif
  decide (x.1 < q379) then true else decide ((16777215 : Int) < x.1)) = true -> q40 = sizeD x.1) /\ ((bif decide (x.1 < q379) then true else decide ((16777215 : Int) < x.1)) = false -> (q40
  <= x.1 /\ x.1 <= (16777215 : Int)) /\ (∀ (y : q5), (q160 y) -> y.1 = lngD x.1 -> wrZ (q72 + (lnZ y.1)) = sizeD x.1) /\ True)
theorem e118 : t118 = Con.vc c_der_Size GL (mkEnv ty [(136, conSem c_der_length)] [] [] [0, 2, 8]) {} Tryz.f118.ntmps Tryz.f118.results.toList (bodyOf Tryz.f118) := by kernel_rfl
theorem k118 : t118 := by
  unfold t118
  delta q1 q36 q379 q141 q40 q5 q160 wrZ q72 lnZ wiZ wyZ
  rintro ⟨n, _⟩ hx hp
  try dsimp +instances only [dft_int, dft_sl, dft_str]
  simp only [true_and, and_true, eq_self_iff_true, implies_true, reduceCtorEq, false_implies, true_implies, decide_eq_true_eq, decide_eq_false_iff_not, beq_self_eq_true, Bool.not_eq_true', ne_eq, Decidable.not_not, List.nil_append, List.length_singleton, List.length_cons, List.length_nil, Nat.zero_add, Nat.add_zero, Nat.mul_one, and_self, beq_iff_eq, Bool.not_true, Bool.not_false, Bool.not_eq_false', Bool.cond_false_right, Bool.and_eq_true, imp_self, Bool.not_eq_true, Bool.cond_true_left, Bool.or_eq_true]
  refine ⟨fun h => by rw [sizeD, if_pos h], fun h => ?_⟩
  simp only [Bool.or_eq_false_iff, decide_eq_false_iff_not] at h
  refine ⟨⟨by omega, by omega⟩, ?_⟩
  rintro ⟨l, _⟩ _ el
  simp only at el ⊢
  have := lng_len (n := n)
  rw [el, wrapK _ (by omega) (by omega), size_of (by omega) (by omega)]
theorem h118 : c_der_Size.ok Tryz.prog GL 118 := con_ok (H := {}) (mkEnv_ok (gl := GL) (l := [(136, conSem c_der_length)]) (q := []) (d := []) _ tyOk (by kernel_rfl) ⟨h136.call, trivial⟩ trivial trivial) (by kernel_rfl) (by kernel_rfl) (Eq.mp e118 k118)
noncomputable def i157 : CallSem → CallSem := vcSeq (mkEnv ty [(119, conSem c_der_Take)] [] [] [0, 1, 3, 4, 5, 6, 10, 27]) {} Tryz.f157.ntmps Tryz.f157.results.toList (bodyOf Tryz.f157)
theorem i157_ok : SeqOk Tryz.prog GL 157 i157 := seq_ok {} (mkEnv_ok (gl := GL) (l := [(119, conSem c_der_Take)]) (q := []) (d := []) _ tyOk (by kernel_rfl) ⟨h119.call, trivial⟩ trivial trivial) (by kernel_rfl) (by kernel_rfl)
noncomputable def i117 : CallSem := vcFn (mkEnv ty [(123, conSem c_slices_Clone_byte_byte)] [] [] [0, 2, 3]) {} Tryz.f117.ntmps Tryz.f117.results.toList (bodyOf Tryz.f117)
theorem i117_ok : CallOk Tryz.prog GL 117 i117 := inl_ok {} (mkEnv_ok (gl := GL) (l := [(123, conSem c_slices_Clone_byte_byte)]) (q := []) (d := []) _ tyOk (by kernel_rfl) ⟨h123.call, trivial⟩ trivial trivial) (by kernel_rfl) (by kernel_rfl)
def t72 : Prop :=
  ∀ (x : q5), (q160 x) -> lenB x.1 <= q84 -> q42 <= q69 /\ q42 <= q69 /\ lenB x.1 <= q84 /\ (∀ (y : q5), (q160 y) -> y.1 = x.1 -> q42 <= q69 /\ ∃ (I : Int × Unit -> Unit × (Int × Unit) × q193
  × List q194 × Unit -> Prop), ∃ (μ : Int × Unit -> Unit × (Int × Unit) × q193 × List q194 × Unit -> Nat), (q40 = q40 /\ q40 = q40 /\ Value.slice none q71 q71 = Value.slice none q71 q71 /\
  x.1 = x.1 /\ I (q40, ()) ((), (q40, ()), (y.1, ()), [], ())) /\ ∀ (y : q1) (z : Unit × (Int × Unit) × q193 × List q194 × Unit), (q36 y) -> True /\ (wiZ z.2.1.1 /\ True) /\ (wyZ z.2.2.1.1 /\
  True) /\ (Kd.wf q192 z.2.2.2.1 /\ True) -> I y z -> (decide (y.1 < (lnZ z.2.2.1.1)) = true -> (q40 <= y.1 /\ y.1 <= (lnZ z.2.2.1.1)) /\ lenB (List.drop (q377 y) z.2.2.1.1) <= q84 /\ (∀ (y_1
  : q19), (q188 y_1) -> (y_1.1, y_1.2.1, y_1.2.2.1) = takeD (List.drop (q377 y) z.2.2.1.1) -> q74 <= q69 /\ (decide (y_1.2.2.1 ≠ q40) = false -> True) /\ (decide (y_1.2.2.1 ≠ q40) = false ->
  True) /\ (decide (y_1.2.2.1 ≠ q40) = false -> True) /\ (decide (y_1.2.2.1 ≠ q40) = false -> (decide (y_1.2.2.1 ≠ q40) == false) = true /\ (decide (y_1.2.2.1 ≠ q40) == false) = true /\
  (decide (y_1.2.2.1 ≠ q40) == false) = true /\ q74 <= q69 /\ q71 < q74 /\ (List.length z.2.2.2.1 + List.length [(y_1.1.1, y_1.1.2)]) * (32 : Nat) <= q159 /\ List.length z.2.2.2.1 +
  List.length [(y_1.1.1, y_1.1.2)] <= q158 /\ (((True /\ (∀ (y_2 : q1), (q36 y_2) -> y_2.1 = sizeD (lnZ y_1.1.2) -> (((((q40 = q40 /\ q40 = q40 /\ Value.slice none q71 q71 = Value.slice none
  q71 q71 /\ x.1 = x.1 /\ I (wrZ (y.1 + y_1.2.1), ()) ((), (wrZ (q401 y y_2 y_1), ()), (z.2.2.1.1, ()), z.2.2.2.1 ++ [(y_1.1.1, y_1.1.2)], ()) /\ μ (wrZ (y.1 + y_1.2.1), ()) ((), (wrZ (q401 y
  y_2 y_1), ()), (z.2.2.1.1, ()), z.2.2.2.1 ++ [(y_1.1.1, y_1.1.2)], ()) < μ y z) /\ True) /\ True) /\ True) /\ True) /\ (((((q40 = q40 /\ q40 = q40 /\ Value.slice none q71 q71 = Value.slice
  none q71 q71 /\ x.1 = x.1 /\ I (wrZ (y.1 + y_1.2.1), ()) ((), (wrZ (q401 y y_2 y_1), ()), (z.2.2.1.1, ()), z.2.2.2.1 ++ [(y_1.1.1, y_1.1.2)], ()) /\ μ (wrZ (y.1 + y_1.2.1), ()) ((), (wrZ
  (q401 y y_2 y_1), ()), (z.2.2.1.1, ()), z.2.2.2.1 ++ [(y_1.1.1, y_1.1.2)], ()) < μ y z) /\ True) /\ True) /\ True) /\ ((((q40 = q40 /\ q40 = q40 /\ Value.slice none q71 q71 = Value.slice
  none q71 q71 /\ x.1 = x.1 /\ I (wrZ (y.1 + y_1.2.1), ()) ((), (wrZ (q401 y y_2 y_1), ()), (z.2.2.1.1, ()), z.2.2.2.1 ++ [(y_1.1.1, y_1.1.2)], ()) /\ μ (wrZ (y.1 + y_1.2.1), ()) ((), (wrZ
  (q401 y y_2 y_1), ()), (z.2.2.1.1, ()), z.2.2.2.1 ++ [(y_1.1.1, y_1.1.2)], ()) < μ y z) /\ True) /\ True) /\ True) /\ True) /\ True) /\ True) /\ ((True /\ (∀ (y_2 : q1), (wiZ y_2.1 /\ True)
  -> y_2.1 = sizeD (lnZ y_1.1.2) -> ((((q379 = q379 /\ q379 = q379 /\ Value.slice none q402 q402 = Value.slice none q402 q402 /\ x.1 = x.1 /\ I (wrZ (y.1 + y_1.2.1), ()) ((), (wrZ (q401 y y_2
  y_1), ()), (z.2.2.1.1, ()), z.2.2.2.1 ++ [(y_1.1.1, y_1.1.2)], ()) /\ μ (wrZ (y.1 + y_1.2.1), ()) ((), (wrZ (q401 y y_2 y_1), ()), (z.2.2.1.1, ()), z.2.2.2.1 ++ [(y_1.1.1, y_1.1.2)], ()) <
  μ y z) /\ True) /\ True) /\ True) /\ ((((q379 = q379 /\ q379 = q379 /\ Value.slice none q402 q402 = Value.slice none q402 q402 /\ x.1 = x.1 /\ I (wrZ (y.1 + y_1.2.1), ()) ((), (wrZ (q401 y
  y_2 y_1), ()), (z.2.2.1.1, ()), z.2.2.2.1 ++ [(y_1.1.1, y_1.1.2)], ()) /\ μ (wrZ (y.1 + y_1.2.1), ()) ((), (wrZ (q401 y y_2 y_1), ()), (z.2.2.1.1, ()), z.2.2.2.1 ++ [(y_1.1.1, y_1.1.2)],
  ()) < μ y z) /\ True) /\ True) /\ True) /\ True) /\ True) /\ (q400 y_1 x I y z μ) /\ True) /\ True) /\ (q190 y_1 x I y z μ) /\ True) /\ ((q190 y_1 x I y z μ) /\ (((q400 y_1 x I y z μ) /\
  True) /\ True) /\ True) /\ True) /\ (decide (y_1.2.2.1 ≠ q40) = !false -> (decide (z.2.1.1 = (lnZ x.1)) = true -> (z.2.2.2.1, z.2.1.1, q40) = allD x.1) /\ (q191 z x))) /\ True) /\ (decide
  (y.1 < (lnZ z.2.2.1.1)) = false -> (decide (z.2.1.1 = (lnZ x.1)) = true -> (z.2.2.2.1, z.2.1.1, q40) = allD x.1) /\ (q191 z x))) /\ True
theorem e72 : t72 = Con.vc c_der_All GL (mkEnv ty [(117, i117), (119, conSem c_der_Take), (118, conSem c_der_Size)] [(157, i157)] [] [0, 2, 3, 4, 5, 6, 7, 8, 11, 13, 14, 15, 33]) {} Tryz.f72.ntmps Tryz.f72.results.toList (bodyOf Tryz.f72) := by kernel_rfl
theorem k72 : t72 := by
  unfold t72
  delta q5 q160 q84 q42 q69 q193 q194 q40 q71 q1 q36 wiZ wyZ q192 lnZ q377 q19 q188 q74 q159 q158 wrZ q401 q379 q402 q400 q190 q191 q403 q482 q493 q447 q448 q494
  rintro ⟨b, _⟩ hx hp
  have hp : b.length ≤ 1000000000 := hp
  have hb : Bys b := sl_bys hx.1
  try dsimp +instances only [dft_int, dft_sl, dft_str]
  simp only [true_and, and_true, eq_self_iff_true, implies_true, reduceCtorEq, false_implies, true_implies, decide_eq_true_eq, decide_eq_false_iff_not, beq_self_eq_true, Bool.not_eq_true', ne_eq, Decidable.not_not, List.nil_append, List.length_singleton, List.length_cons, List.length_nil, Nat.zero_add, Nat.add_zero, Nat.mul_one, and_self, beq_iff_eq, Bool.not_true, Bool.not_false, Bool.not_eq_false', Bool.cond_false_right, Bool.and_eq_true, imp_self, Bool.not_eq_true, Bool.cond_true_left, Bool.or_eq_true]
  refine ⟨by decide, by decide, hp, ?_⟩
  rintro ⟨b1, _⟩ _ eb
  have eb : b1 = b := eb
  subst eb
  refine ⟨by decide, fun y z => z.2.2.1.1 = b1 ∧ 0 ≤ y.1 ∧ y.1 ≤ b1.length ∧ z.2.1.1 = y.1 ∧ (z.2.2.2.1 : List EltT).length ≤ y.1 ∧ ∃ (k : Nat) (pre : List (Int × EltT)), (b1.length : Int) - y.1 ≤ k ∧ rowD b1 = (pre ++ (rowR b1 k y.1).1, (rowR b1 k y.1).2) ∧ z.2.2.2.1 = pre.map (·.2), fun y _ => ((b1.length : Int) - y.1).toNat, ⟨rfl, Int.le_refl 0, by simp only; omega, rfl, by simp, b1.length, [], by simp only; omega, rfl, rfl⟩, ?_⟩
  rintro ⟨i, _⟩ ⟨_, ⟨en, _⟩, ⟨own, _⟩, out, _⟩ _ _ ⟨eo, i0, i1, ee, hl, k, pre, hk, hr, eout⟩
  simp only at eo i0 i1 ee hl hk hr eout ⊢
  subst eo ee
  refine ⟨fun hlt => ⟨⟨i0, by omega⟩, by rw [lenB, List.length_drop]; omega, ?_⟩, fun hge => ⟨fun h => ?_, fun h => absurd (by omega) h⟩⟩
  . rintro ⟨x, n, e, _⟩ _ eT
    simp only at eT ⊢
    obtain ⟨m, rfl⟩ : ∃ m, k = m + 1 := ⟨k - 1, by omega⟩
    have hbd : Bys (own.drop en.toNat) := bys_drop hb _
    refine ⟨by decide, fun he => ?_, fun he => ⟨fun h => by omega, fun h => ⟨⟨i0, i1⟩, by rw [lenB, List.length_drop]; omega, ?_⟩⟩⟩
    . subst he
      have ok : (takeD (own.drop en.toNat)).2.2 = 0 := by rw [← eT]
      have h1 := take_inv hbd ok
      have h2 := take_ok hbd ok
      rw [row_step own m en hlt ok] at hr
      rw [← eT] at h1 h2 hr
      simp only at h1 h2 hr
      rw [List.length_drop] at h2
      have hpl := put_len x
      have hll := lng_len (n := (x.2.length : Int))
      refine ⟨by trivial, by trivial, by trivial, by decide, by decide, by omega, by omega, ?_⟩
      rintro ⟨z, _⟩ _ ez
      simp only at ez ⊢
      rw [size_of (by omega) (by omega)] at ez
      rw [wrapK (en + n) (by omega) (by omega), wrapK (en + z) (by omega) (by omega), wrapK (en + z + (x.2.length : Int)) (by omega) (by omega)]
      refine ⟨⟨by trivial, by omega, by omega, by omega, by rw [List.length_append, List.length_singleton]; omega, m, pre ++ [(en, x)], by omega, ?_, ?_⟩, by omega⟩
      . rw [hr]; simp
      . rw [eout]; simp
    . rintro ⟨x2, n2, e2, _⟩ _ eT2
      simp only at eT2 ⊢
      have he2 : e2 = e := by
        have := eT.trans eT2.symm
        simp only [Prod.mk.injEq] at this
        exact this.2.2.symm
      have bad : (takeD (own.drop en.toNat)).2.2 ≠ 0 := by rw [← eT]; exact he
      rw [row_bad own m en hlt bad, ← eT] at hr
      refine ⟨by decide, ?_⟩
      rw [allD, hr, he2]
      simp only
      rw [if_pos he]
  . rw [row_end own k en hge] at hr
    rw [allD, hr]
    simp only
    rw [if_neg (by simp), List.append_nil, eout]
theorem h72 : c_der_All.ok Tryz.prog GL 72 := con_ok (H := {}) (mkEnv_ok (gl := GL) (l := [(117, i117), (119, conSem c_der_Take), (118, conSem c_der_Size)]) (q := [(157, i157)]) (d := []) _ tyOk (by kernel_rfl) ⟨i117_ok, h119.call, h118.call, trivial⟩ ⟨i157_ok, trivial⟩ trivial) (by kernel_rfl) (by kernel_rfl) (Eq.mp e72 k72)
end Go.Proofs.YtiofbnlbfmbodaaGreatDoor
end
section
namespace Go.Proofs.YtiofbnlbfmbodaaGreatDoor
open Go Go.Vc Go.Pl Go.Proofs
def c_r01_IsTag : Con := { args := [.dat I64], res := [.dat .bool], pre := fun _ => True, post := fun x y => y.1 = isTagD x.1 }
def c_r01_Length : Con := { args := [.dat I64], res := [.own 5 U8], pre := fun x => 0 ≤ x.1 ∧ x.1 ≤ 16777215, post := fun x y => y.1 = lngD x.1 }
def c_r01_Bytes : Con := { args := [.dat ET], res := [.own 5 U8], pre := fun x => lenB x.1.2 ≤ 16777215 ∧ 0 ≤ x.1.1 ∧ x.1.1 ≤ 255, post := fun x y => y.1 = putB x.1 }
def c_r01_Take : Con := { args := [.dat BY], res := [.dat ET, .dat I64, .dat I64], pre := fun x => lenB x.1 ≤ 1000000000, post := fun x y => (y.1, y.2.1, y.2.2.1) = takeD x.1 }
def c_r01_One : Con := { args := [.dat BY], res := [.dat ET, .dat I64], pre := fun x => lenB x.1 ≤ 1000000000, post := fun x y => (y.1, y.2.1) = oneD x.1 }
def c_r01_Row : Con := { args := [.dat BY], res := [.own 105 ET, .own 3 I64, .dat I64, .dat I64], pre := fun x => lenB x.1 ≤ 1000000000, post := fun x y => y.1 = (rowD x.1).1.map (·.2) ∧ y.2.1 = (rowD x.1).1.map (·.1) ∧ (y.2.2.1, y.2.2.2.1) = (rowD x.1).2 }
def c_r01_All : Con := { args := [.dat BY], res := [.own 105 ET, .dat I64, .dat I64], pre := fun x => lenB x.1 ≤ 1000000000, post := fun x y => (y.1, y.2.1, y.2.2.1) = allD x.1 }
end Go.Proofs.YtiofbnlbfmbodaaGreatDoor
end
section
namespace Go.Proofs.YtiofbnlbfmbodaaGreatDoor
open Go Go.Vc Go.Pl Go.Proofs
set_option linter.unusedVariables false
set_option linter.unusedSimpArgs false
set_option maxRecDepth 20000
abbrev q20 := (Int × Int × List Int)
abbrev q21 := (List (Int × List Int) × List Int × Int × Int × Unit)
abbrev q195 (p0 : q1) := ((bif decide (q379 <= p0.1) then decide (p0.1 < (256 : Int)) else false) == true)
abbrev q196 (p0 : q1) := (bif decide (q379 <= p0.1) then decide (p0.1 < (256 : Int)) else false)
abbrev q197 := (16777215 : Nat)
abbrev q492 (p0 : q18) (p1 : q5) := (List.drop (Int.toNat p0.1) (List.take (Int.toNat (wrZ (p0.1 + p0.2.1))) p1.1))
abbrev q491 (p0 : q5) (p1 : q18) := (((wrZ (List.getD p0.1 (0 : Nat) q511), [] ++ List.drop (Int.toNat p1.1) (List.take (Int.toNat (wrZ (p1.1 + p1.2.1))) p0.1)), wrZ (p1.1 + p1.2.1), (0 :
  Int)) = takeD p0.1 /\ True)
abbrev q449 (p0 : q18) (p1 : q5) := (q493 < (1 : Nat) /\ (q493 + List.length (q492 p0 p1)) * (1 : Nat) <= (140737488355328 : Nat) /\ q493 + List.length (q492 p0 p1) <= (9223372036854775807
  : Nat) /\ (q491 p1 p0) /\ True)
abbrev q198 (p0 : q18) (p1 : q5) := (((q379 <= p0.1 /\ p0.1 <= wrZ (p0.1 + p0.2.1) /\ wrZ (p0.1 + p0.2.1) <= (lnZ p1.1)) /\ (q449 p0 p1) /\ True) /\ True)
abbrev q199 (p0 : q18) (p1 : q5) := ((q449 p0 p1) /\ True)
abbrev q200 (p0 : q18) (p1 : q5) := (q402 < q387 /\ (q493 + List.length (q492 p0 p1)) * q387 <= q419 /\ q402 + List.length (q492 p0 p1) <= q418 /\ ((q491 p1 p0) /\ True) /\ True)
abbrev q201 (p0 : q5) := (bif decide (wrZ (q446 p0) = q487) then true else decide ((131 : Int) < wrZ (q446 p0)))
abbrev q202 (p0 : q5) := (bif decide (q428 < (lnZ p0.1)) then decide (List.getD p0.1 (2 : Nat) q429 = q379) else false)
abbrev q203 (p0 : q18) (p1 : q5) := (q379 <= p0.1 /\ p0.1 <= wrZ (p0.1 + p0.2.1) /\ wrZ (p0.1 + p0.2.1) <= (lnZ p1.1))
abbrev q204 (p0 : q5) := (wrZ (q446 p0) = q487)
abbrev q205 := (Kd.dft q488)
abbrev q206 := (Kd.sl q494)
abbrev q512 := (Kd.pair (Kd.int IntKind.i64) (Kd.sl (Kd.int IntKind.u8)))
abbrev q450 := (Kd.sl q512)
abbrev q207 (p0 : q21) := (Kd.wf q450 p0.1 /\ Kd.wf (Kd.sl q494) p0.2.1 /\ wiZ p0.2.2.1 /\ wiZ p0.2.2.2.1 /\ True)
def t103 : Prop :=
  ∀ (x : q1), (q36 x) -> True -> (decide (q39 x) = true -> True) /\ (decide (q39 x) = true -> (decide (q39 x) == true) = true /\ True) /\ (decide (q39 x) = true -> (decide (q39 x) == true) =
  true) /\ ((q196 x) = true -> True) /\ ((q196 x) = true -> (q195 x) = true /\ (32 : Int) ≠ q40 /\ True) /\ ((q196 x) = true -> (q195 x) = true /\ True) /\ ((q196 x) = true -> (q195 x) =
  true) /\ (bif bif decide (q39 x) then decide (x.1 < (256 : Int)) else false then decide (Int.tmod x.1 (32 : Int) ≠ (31 : Int)) else false) = isTagD x.1
theorem e103 : t103 = Con.vc c_r01_IsTag GL (mkEnv ty [] [] [] [0, 2]) {} Tryz.f103.ntmps Tryz.f103.results.toList (bodyOf Tryz.f103) := by kernel_rfl
theorem k103 : t103 := by
  unfold t103
  delta q1 q36 q39 q196 q195 q40 wiZ q379
  rintro ⟨t, _⟩ hx hp
  try dsimp +instances only [dft_int, dft_sl, dft_str]
  simp only [true_and, and_true, eq_self_iff_true, implies_true, reduceCtorEq, false_implies, true_implies, decide_eq_true_eq, decide_eq_false_iff_not, beq_self_eq_true, Bool.not_eq_true', ne_eq, Decidable.not_not, List.nil_append, List.length_singleton, List.length_cons, List.length_nil, Nat.zero_add, Nat.add_zero, Nat.mul_one, and_self, beq_iff_eq, Bool.not_true, Bool.not_false, Bool.not_eq_false', Bool.cond_false_right, Bool.and_eq_true, imp_self, Bool.not_eq_true, Bool.cond_true_left, Bool.or_eq_true]
  exact ⟨fun h => ⟨h, by decide⟩, isTag_ref t⟩
theorem h103 : c_r01_IsTag.ok Tryz.prog GL 103 := con_ok (H := {}) (mkEnv_ok (gl := GL) (l := []) (q := []) (d := []) _ tyOk (by kernel_rfl) trivial trivial trivial) (by kernel_rfl) (by kernel_rfl) (Eq.mp e103 k103)
def t144 : Prop :=
  ∀ (x : q1), (q36 x) -> q40 <= x.1 /\ x.1 <= (16777215 : Int) -> (decide (x.1 < q96) = true -> [IntKind.wrap IntKind.u8 x.1] = lngD x.1) /\ (decide (x.1 < q96) = false -> ∃ (I : q16), ∃ (μ :
  q17), (Value.bool false = Value.bool false /\ Value.slice none q71 q71 = Value.slice none q71 q71 /\ I (x.1, ()) ([], ())) /\ ∀ (y : q1) (z : q5), (q36 y) -> (q160 z) -> I y z -> (decide
  (q40 < y.1) = true -> (256 : Int) ≠ q40 /\ q71 < q42 /\ (List.length [IntKind.wrap IntKind.u8 (Int.tmod y.1 (256 : Int))] + List.length z.1) * q42 <= q159 /\ List.length [IntKind.wrap
  IntKind.u8 (Int.tmod y.1 (256 : Int))] + List.length z.1 <= q158 /\ (256 : Int) ≠ q40 /\ Value.bool false = Value.bool false /\ Value.slice none q71 q71 = Value.slice none q71 q71 /\ I (wrZ
  (Int.tdiv y.1 (256 : Int)), ()) ([IntKind.wrap IntKind.u8 (Int.tmod y.1 (256 : Int))] ++ z.1, ()) /\ μ (wrZ (Int.tdiv y.1 (256 : Int)), ()) ([IntKind.wrap IntKind.u8 (Int.tmod y.1 (256 :
  Int))] ++ z.1, ()) < μ y z) /\ (decide (q40 < y.1) = false -> q71 < q42 /\ (List.length [IntKind.wrap IntKind.u8 (wrZ (q96 + (lnZ z.1)))] + List.length z.1) * q42 <= q159 /\ List.length
  [IntKind.wrap IntKind.u8 (wrZ (q96 + (lnZ z.1)))] + List.length z.1 <= q158 /\ [IntKind.wrap IntKind.u8 (wrZ (q96 + (lnZ z.1)))] ++ z.1 = lngD x.1))
theorem e144 : t144 = Con.vc c_r01_Length GL (mkEnv ty [] [] [] [0, 2, 3, 5, 10]) {} Tryz.f144.ntmps Tryz.f144.results.toList (bodyOf Tryz.f144) := by kernel_rfl
theorem k144 : t144 := by
  unfold t144
  delta q1 q36 q40 q96 q16 q17 q71 q5 q160 q42 q159 q158 wrZ lnZ wiZ wyZ
  rintro ⟨n, _⟩ hx hp
  obtain ⟨h0, h1⟩ := hp
  simp only at h0 h1
  try dsimp +instances only [dft_int, dft_sl, dft_str]
  simp only [true_and, and_true, eq_self_iff_true, implies_true, reduceCtorEq, false_implies, true_implies, decide_eq_true_eq, decide_eq_false_iff_not, beq_self_eq_true, Bool.not_eq_true', ne_eq, Decidable.not_not, List.nil_append, List.length_singleton, List.length_cons, List.length_nil, Nat.zero_add, Nat.add_zero, Nat.mul_one, and_self, beq_iff_eq, Bool.not_true, Bool.not_false, Bool.not_eq_false', Bool.cond_false_right, Bool.and_eq_true, imp_self, Bool.not_eq_true, Bool.cond_true_left, Bool.or_eq_true]
  refine ⟨fun h => by rw [lngD, if_pos h, wrap_u8m, show n % 256 = n by omega], fun h => ?_⟩
  refine ⟨fun y z => (y.1 = n ∧ z.1 = []) ∨ (y.1 = n / 256 ∧ z.1 = [n % 256]) ∨ (0 < n / 256 ∧ y.1 = n / 65536 ∧ z.1 = [n / 256 % 256, n % 256]) ∨ (0 < n / 65536 ∧ y.1 = 0 ∧ z.1 = [n / 65536, n / 256 % 256, n % 256]), fun y _ => y.1.toNat, .inl ⟨rfl, rfl⟩, ?_⟩
  rintro ⟨m, _⟩ ⟨z, _⟩ _ _ hI
  simp only at hI ⊢
  refine ⟨fun hlt => ?_, fun hge => ?_⟩
  . have hm : IntKind.wrap .i64 (m.tdiv 256) = m / 256 := by
      rw [Int.tdiv_eq_ediv_of_nonneg (by omega), wrapK _ (by omega) (by omega)]
    have hm2 : IntKind.wrap .u8 (m.tmod 256) = m % 256 := by
      rw [Int.tmod_eq_emod_of_nonneg (by omega), wrap_u8m]
      omega
    rw [hm, hm2]
    rcases hI with ⟨rfl, rfl⟩ | ⟨rfl, rfl⟩ | ⟨g, rfl, rfl⟩ | ⟨g, rfl, rfl⟩
    . exact ⟨by decide, by decide, by simp, by simp, by decide, .inr (.inl ⟨rfl, rfl⟩), by omega⟩
    . exact ⟨by decide, by decide, by simp, by simp, by decide, .inr (.inr (.inl ⟨hlt, by omega, rfl⟩)), by omega⟩
    . refine ⟨by decide, by decide, by simp, by simp, by decide, .inr (.inr (.inr ⟨hlt, by omega, ?_⟩)), by omega⟩
      rw [show n / 65536 % 256 = n / 65536 by omega]
      rfl
    . omega
  . rcases hI with ⟨rfl, rfl⟩ | ⟨rfl, rfl⟩ | ⟨g, rfl, rfl⟩ | ⟨g, rfl, rfl⟩
    . omega
    . refine ⟨by decide, by simp, by simp, ?_⟩
      rw [lngD, if_neg h, if_pos (by omega), show n % 256 = n by omega]
      rfl
    . refine ⟨by decide, by simp, by simp, ?_⟩
      rw [lngD, if_neg h, if_neg (by omega), if_pos (by omega), show n / 256 % 256 = n / 256 by omega]
      rfl
    . refine ⟨by decide, by simp, by simp, ?_⟩
      rw [lngD, if_neg h, if_neg (by omega), if_neg (by omega)]
      rfl
theorem h144 : c_r01_Length.ok Tryz.prog GL 144 := con_ok (H := {}) (mkEnv_ok (gl := GL) (l := []) (q := []) (d := []) _ tyOk (by kernel_rfl) trivial trivial trivial) (by kernel_rfl) (by kernel_rfl) (Eq.mp e144 k144)
def t100 : Prop :=
  ∀ (x : q13), (Kd.wf q403 x.1 /\ True) -> lenB x.1.2 <= q197 /\ q40 <= x.1.1 /\ x.1.1 <= q395 -> List.length [SV.dat q140 x.1.1, SV.dat q404 x.1.2] <= q69 /\ q71 < q42 /\ (q71 + List.length
  [IntKind.wrap IntKind.u8 x.1.1]) * q42 <= q159 /\ q71 + List.length [IntKind.wrap IntKind.u8 x.1.1] <= q158 /\ (q40 <= (lnZ x.1.2) /\ (lnZ x.1.2) <= (16777215 : Int)) /\ (∀ (y : q5), (q160
  y) -> y.1 = lngD (lnZ x.1.2) -> q71 < q42 /\ (List.length ([] ++ [IntKind.wrap IntKind.u8 x.1.1]) + List.length y.1) * q42 <= q159 /\ List.length ([] ++ [IntKind.wrap IntKind.u8 x.1.1]) +
  List.length y.1 <= q158 /\ q71 < q42 /\ (List.length ([] ++ [IntKind.wrap IntKind.u8 x.1.1] ++ y.1) + List.length x.1.2) * q42 <= q159 /\ List.length ([] ++ [IntKind.wrap IntKind.u8 x.1.1]
  ++ y.1) + List.length x.1.2 <= q158 /\ [] ++ [IntKind.wrap IntKind.u8 x.1.1] ++ y.1 ++ x.1.2 = putB x.1) /\ True
theorem e100 : t100 = Con.vc c_r01_Bytes GL (mkEnv ty [(144, conSem c_r01_Length)] [] [] [0, 1, 2, 3]) {} Tryz.f100.ntmps Tryz.f100.results.toList (bodyOf Tryz.f100) := by kernel_rfl
theorem k100 : t100 := by
  unfold t100
  delta q13 q403 q197 q40 q395 q140 q404 q69 q71 q42 q159 q158 lnZ q5 q160 q494 q488 wyZ
  rintro ⟨⟨t, c⟩, _⟩ hx hp
  obtain ⟨h1, h2, h3⟩ := hp
  simp only [lenB] at h1 h2 h3
  try dsimp +instances only [dft_int, dft_sl, dft_str]
  simp only [true_and, and_true, eq_self_iff_true, implies_true, reduceCtorEq, false_implies, true_implies, decide_eq_true_eq, decide_eq_false_iff_not, beq_self_eq_true, Bool.not_eq_true', ne_eq, Decidable.not_not, List.nil_append, List.length_singleton, List.length_cons, List.length_nil, Nat.zero_add, Nat.add_zero, Nat.mul_one, and_self, beq_iff_eq, Bool.not_true, Bool.not_false, Bool.not_eq_false', Bool.cond_false_right, Bool.and_eq_true, imp_self, Bool.not_eq_true, Bool.cond_true_left, Bool.or_eq_true]
  have hll := lng_len (n := (c.length : Int))
  refine ⟨by decide, by decide, by decide, by decide, ⟨by omega, by omega⟩, ?_⟩
  rintro ⟨l, _⟩ _ el
  simp only at el ⊢
  subst el
  refine ⟨by decide, by omega, by omega, by decide, by simp only [List.length_append, List.length_singleton]; omega, by simp only [List.length_append, List.length_singleton]; omega, ?_⟩
  rw [wrap8 t h2 h3, putB]
  simp
theorem h100 : c_r01_Bytes.ok Tryz.prog GL 100 := con_ok (H := {}) (mkEnv_ok (gl := GL) (l := [(144, conSem c_r01_Length)]) (q := []) (d := []) _ tyOk (by kernel_rfl) ⟨h144.call, trivial⟩ trivial trivial) (by kernel_rfl) (by kernel_rfl) (Eq.mp e100 k100)
def t53 : Prop :=
  ∀ (x : q5), (q160 x) -> lenB x.1 <= q84 -> q74 <= q69 /\ (decide ((lnZ x.1) = q40) = true -> ((q40, []), q40, (10 : Int)) = takeD x.1) /\ (decide ((lnZ x.1) = q40) = false -> (q64 x) /\
  True /\ (∀ (y : q4), (q47 y) -> y.1 = isTagD (wrZ (q182 x)) -> ((!y.1) = true -> ((q40, []), q40, (11 : Int)) = takeD x.1) /\ ((!y.1) = false -> (decide ((lnZ x.1) = q72) = true -> ((q40,
  []), q40, (10 : Int)) = takeD x.1) /\ (decide ((lnZ x.1) = q72) = false -> (q65 x) /\ (decide (q204 x) = false -> True) /\ (decide (q204 x) = false -> (decide (q204 x) == false) = true /\
  True) /\ (decide (q204 x) = false -> (decide (q204 x) == false) = true) /\ ((q201 x) = true -> ((q40, []), q40, q70) = takeD x.1) /\ ((q201 x) = false -> ∃ (J : Int × Int × Int × Int × Unit
  -> (Int × Unit) × Unit -> Prop), ((decide (q96 < wrZ (q183 x)) = true -> (decide (q184 x) = true -> True) /\ (decide (q184 x) = true -> (decide (q184 x) == true) = true /\ (q40 <= q75 /\
  q75 < (lnZ x.1)) /\ True) /\ (decide (q184 x) = true -> (decide (q184 x) == true) = true /\ True) /\ (decide (q184 x) = true -> (decide (q184 x) == true) = true /\ True) /\ (decide (q184 x)
  = true -> (decide (q184 x) == true) = true) /\ ((q202 x) = true -> ((q40, []), q40, q70) = takeD x.1) /\ ((q202 x) = false -> (decide (q178 x) = true -> ((q40, []), q40, (10 : Int)) = takeD
  x.1) /\ (decide (q178 x) = false -> ∃ (I : Int × Int × Unit -> Unit × Unit -> Prop), ∃ (μ : Int × Int × Unit -> Unit × Unit -> Nat), (Value.bool false = Value.bool false /\ Value.bool false
  = Value.bool false /\ wrZ (q181 x) = wrZ (q181 x) /\ Value.bool true = Value.bool true /\ Value.bool false = Value.bool false /\ q75 = q75 /\ Value.bool false = Value.bool false /\
  Value.bool false = Value.bool false /\ Value.bool false = Value.bool false /\ q40 = q40 /\ q40 = q40 /\ x.1 = x.1 /\ q40 = q40 /\ Value.slice none q71 q71 = Value.slice none q71 q71 /\ I
  (q40, q40, ()) ((), ())) /\ ∀ (y : q6) (z : Unit × Unit), (q94 y) -> True /\ True -> I y z -> (decide (y.1 < wrZ (q181 x)) = true -> (q40 <= wrZ (q75 + y.1) /\ wrZ (q75 + y.1) < (lnZ x.1))
  /\ Value.bool false = Value.bool false /\ Value.bool false = Value.bool false /\ wrZ (q181 x) = wrZ (q181 x) /\ Value.bool true = Value.bool true /\ Value.bool false = Value.bool false /\
  q75 = q75 /\ Value.bool false = Value.bool false /\ Value.bool false = Value.bool false /\ Value.bool false = Value.bool false /\ q40 = q40 /\ q40 = q40 /\ x.1 = x.1 /\ q40 = q40 /\
  Value.slice none q71 q71 = Value.slice none q71 q71 /\ I (wrZ (q95 y), wrZ (wrZ ((256 : Int) * y.2.1) + wrZ (List.getD x.1 (Int.toNat (wrZ (q75 + y.1))) q205)), ()) ((), ()) /\ μ (wrZ (q95
  y), wrZ (wrZ ((256 : Int) * y.2.1) + wrZ (List.getD x.1 (Int.toNat (wrZ (q75 + y.1))) q205)), ()) ((), ()) < μ y z) /\ (decide (y.1 < wrZ (q181 x)) = false -> (decide (y.2.1 < q96) = true
  -> ((q40, []), q40, q70) = takeD x.1) /\ (decide (y.2.1 < q96) = false -> Value.bool false = Value.bool false /\ Value.bool false = Value.bool false /\ Value.bool false = Value.bool false
  /\ Value.bool false = Value.bool false /\ x.1 = x.1 /\ Value.slice none q71 q71 = Value.slice none q71 q71 /\ J (wrZ (q180 x), y.2.1, q40, q40, ()) ((q40, ()), ())))))) /\ (decide (q96 <
  wrZ (q183 x)) = false -> Value.bool false = Value.bool false /\ Value.bool false = Value.bool false /\ Value.bool false = Value.bool false /\ Value.bool false = Value.bool false /\ x.1 =
  x.1 /\ Value.slice none q71 q71 = Value.slice none q71 q71 /\ J (q75, wrZ (q183 x), q40, q40, ()) ((q40, ()), ()))) /\ ∀ (u : q18) (z : (Int × Unit) × Unit), (q186 u) -> (wiZ z.1.1 /\ True)
  /\ True -> J u z -> (decide (wrZ ((lnZ x.1) - u.1) < u.2.1) = true -> ((q40, []), q40, (10 : Int)) = takeD x.1) /\ (decide (wrZ ((lnZ x.1) - u.1) < u.2.1) = false -> (q64 x) /\ ((q198 u x)
  /\ ((q203 u x) /\ (q199 u x) /\ True) /\ True) /\ ((q198 u x) /\ ((q203 u x) /\ (q199 u x) /\ (q200 u x) /\ True) /\ True) /\ ((q203 u x) /\ ((q199 u x) /\ True) /\ ((q199 u x) /\ (q200 u
  x) /\ True) /\ True) /\ True))))) /\ True)
theorem e53 : t53 = Con.vc c_r01_Take GL (mkEnvO ty [(103, conSem c_r01_IsTag)] [] [] [0, 2, 3, 4, 5, 6, 7, 8, 11, 18, 22, 33, 36, 47, 53, 57, 70, 79] [1000000]) {joins := [25]} Tryz.f53.ntmps Tryz.f53.results.toList (bodyOf Tryz.f53) := by kernel_rfl
theorem k53 : t53 := by
  unfold t53
  delta q5 q160 q84 q74 q69 lnZ q40 q64 q4 q47 wrZ q182 q72 q65 q204 q201 q70 q96 q183 q184 q75 q202 q178 q181 q71 q6 q94 q95 q205 q180 q18 q186 wiZ q198 q203 q199 q200 wyZ q379 wbZ q402 q429 q417 q446 q487 q387 q428 q511 q488 q490 q449 q493 q492 q419 q418 q491
  rintro ⟨b, _⟩ hx hp
  have hp : b.length ≤ 1000000000 := hp
  have hb : Bys b := sl_bys hx.1
  try dsimp +instances only [dft_int, dft_sl, dft_str]
  simp only [true_and, and_true, eq_self_iff_true, implies_true, reduceCtorEq, false_implies, true_implies, decide_eq_true_eq, decide_eq_false_iff_not, beq_self_eq_true, Bool.not_eq_true', ne_eq, Decidable.not_not, List.nil_append, List.length_singleton, List.length_cons, List.length_nil, Nat.zero_add, Nat.add_zero, Nat.mul_one, and_self, beq_iff_eq, Bool.not_true, Bool.not_false, Bool.not_eq_false', Bool.cond_false_right, Bool.and_eq_true, imp_self, Bool.not_eq_true, Bool.cond_true_left, Bool.or_eq_true]
  have b0 := bys_get hb 0
  have b1 := bys_get hb 1
  rw [wrapK (b.getD 0 0) (by omega) (by omega), wrapK (b.getD 1 0) (by omega) (by omega), wrapK (b.getD 1 0 - 128) (by omega) (by omega), wrapK (2 + (b.getD 1 0 - 128)) (by omega) (by omega)]
  have hnil : b = [] ↔ (b.length : Int) = 0 := ⟨fun h => by rw [h]; rfl, fun h => List.eq_nil_of_length_eq_zero (by omega)⟩
  refine ⟨by decide, fun h => (take_bad (by rw [headK, if_pos (hnil.2 h)]) (by decide)).symm, fun h => ⟨⟨by decide, by omega⟩, ?_⟩⟩
  have c1 : ¬ b = [] := fun e => h (hnil.1 e)
  rintro ⟨q, _⟩ _ eq
  simp only at eq ⊢
  subst eq
  refine ⟨fun h1 => (take_bad (by rw [headK, if_neg c1, if_pos h1]) (by decide)).symm, fun h1 => ?_⟩
  have c2 : ¬ isTagD (b.getD 0 0) = false := by rw [h1]; decide
  refine ⟨fun h2 => (take_bad (by rw [headK, if_neg c1, if_neg c2, if_pos (by omega)]) (by decide)).symm, fun h2 => ⟨⟨by decide, by omega⟩, fun h3 => ?_, fun h3 => ?_⟩⟩
  . refine (take_bad ?_ (by decide)).symm
    rw [headK, if_neg c1, if_neg c2, if_neg (by omega), if_neg (by omega), if_pos (by omega)]
  have c3 : ¬ b.length = 1 := by omega
  have h3' : ¬ b.getD 1 0 = 128 ∧ ¬ 131 < b.getD 1 0 := by
    simp only [Bool.or_eq_false_iff, decide_eq_false_iff_not] at h3
    exact h3
  refine ⟨fun u _ => headK b = (b.getD 0 0, u.1, u.2.1, 0), ⟨fun h4 => ⟨fun g => ⟨g, by decide, g⟩, fun g => ?_, fun g => ⟨fun h5 => ?_, fun h5 => ?_⟩⟩, fun h4 => ?_⟩, ?_⟩
  . refine (take_bad ?_ (by decide)).symm
    rw [headK, if_neg c1, if_neg c2, if_neg c3, if_neg (by omega), if_pos (.inr (.inr ⟨by omega, g.2⟩))]
  . have g2 : ¬ (b.getD 1 0 = 128 ∨ 131 < b.getD 1 0 ∨ (2 < b.length ∧ b.getD 2 0 = 0)) := by
      simp only [Bool.and_eq_false_iff, decide_eq_false_iff_not] at g
      omega
    refine (take_bad ?_ (by decide)).symm
    rw [headK, if_neg c1, if_neg c2, if_neg c3, if_neg (by omega), if_neg g2, if_pos h5]
  . have g2 : ¬ (b.getD 1 0 = 128 ∨ 131 < b.getD 1 0 ∨ (2 < b.length ∧ b.getD 2 0 = 0)) := by
      simp only [Bool.and_eq_false_iff, decide_eq_false_iff_not] at g
      omega
    have hl : ((b.drop 2).take (b.getD 1 0 - 128).toNat).length = (b.getD 1 0 - 128).toNat := by rw [List.length_take, List.length_drop]; omega
    have hbl : Bys ((b.drop 2).take (b.getD 1 0 - 128).toNat) := bys_take (bys_drop hb 2) _
    refine ⟨fun y _ => 0 ≤ y.1 ∧ y.1 ≤ b.getD 1 0 - 128 ∧ y.2.1 = numB (((b.drop 2).take (b.getD 1 0 - 128).toNat).take y.1.toNat), fun y _ => (b.getD 1 0 - 128 - y.1).toNat, ⟨Int.le_refl 0, by simp only; omega, rfl⟩, ?_⟩
    rintro ⟨i, n, _⟩ _ _ ⟨i0, i1, en⟩
    simp only at i0 i1 en ⊢
    refine ⟨fun hlt => ?_, fun hge => ?_⟩
    . have hnb := num_bound hbl (j := i.toNat) (by omega)
      rw [← en] at hnb
      rw [wrapK (2 + i) (by omega) (by omega)]
      have hg : ((b.drop 2).take (b.getD 1 0 - 128).toNat).getD i.toNat 0 = b.getD (2 + i).toNat 0 := by
        rw [getD_take _ _ _ (by omega), getD_drop, show 2 + i.toNat = (2 + i).toNat by omega]
      have hbi := bys_get hb (2 + i).toNat
      rw [wrapK (i + 1) (by omega) (by omega), wrapK (256 * n) (by omega) (by omega), wrapK (b.getD (2 + i).toNat 0) (by omega) (by omega), wrapK _ (by omega) (by omega)]
      refine ⟨⟨by omega, by omega⟩, ⟨by omega, by omega, ?_⟩, by omega⟩
      rw [show (i + 1).toNat = i.toNat + 1 by omega, take_snoc _ _ (by omega), num_snoc, en, hg]
    . rw [List.take_of_length_le (by omega)] at en
      rw [en]
      refine ⟨fun h6 => (take_bad ?_ (by decide)).symm, fun h6 => ?_⟩
      . rw [headK, if_neg c1, if_neg c2, if_neg c3, if_neg (by omega), if_neg g2, if_neg h5, if_pos h6]
      . rw [headK, if_neg c1, if_neg c2, if_neg c3, if_neg (by omega), if_neg g2, if_neg h5, if_neg h6]
  . rw [headK, if_neg c1, if_neg c2, if_neg c3, if_pos (by omega)]
  . rintro ⟨f, n, j1, j2, _⟩ _ _ _ hK
    simp only at hK ⊢
    have hok := head_ok hb (by rw [hK])
    rw [hK] at hok
    simp only at hok
    rw [take_good hK, wrapK ((b.length : Int) - f) (by omega) (by omega)]
    refine ⟨fun h6 => by rw [if_pos h6], fun h6 => ?_⟩
    rw [if_neg h6, wrapK (f + n) (by omega) (by omega)]
    refine ⟨⟨by decide, by omega⟩, ⟨by omega, by omega, by omega⟩, by decide, by rw [List.length_drop, List.length_take]; omega, by rw [List.length_drop, List.length_take]; omega, ?_⟩
    rw [List.drop_take, show (f + n).toNat - f.toNat = n.toNat by omega]
theorem h53 : c_r01_Take.ok Tryz.prog GL 53 := conO_ok (H := {joins := [25]}) (mkEnvO_ok (gl := GL) (l := [(103, conSem c_r01_IsTag)]) (q := []) (d := []) _ [1000000] tyOk (by kernel_rfl) ⟨h103.call, trivial⟩ trivial trivial) (by kernel_rfl) (by kernel_rfl) (Eq.mp e53 k53)
def t141 : Prop :=
  ∀ (x : q5), (q160 x) -> lenB x.1 <= q84 -> q74 <= q69 /\ lenB x.1 <= q84 /\ (∀ (y : q19), (q188 y) -> (y.1, y.2.1, y.2.2.1) = takeD x.1 -> q74 <= q69 /\ (decide (q189 y) = true -> True) /\
  (decide (q189 y) = true -> True) /\ (decide (q189 y) = true -> (q399 y) = true /\ True) /\ (q187 y) /\ (decide (q189 y) = true -> (q399 y) = true) /\ ((bif decide (q189 y) then decide
  (y.2.1 ≠ (lnZ x.1)) else false) = true -> ((q40, []), (13 : Int)) = oneD x.1) /\ ((bif decide (q189 y) then decide (y.2.1 ≠ (lnZ x.1)) else false) = false -> ((y.1.1, y.1.2), y.2.2.1) =
  oneD x.1)) /\ True
theorem e141 : t141 = Con.vc c_r01_One GL (mkEnv ty [(53, conSem c_r01_Take)] [] [] [0, 2, 3, 4, 5, 6, 20]) {} Tryz.f141.ntmps Tryz.f141.results.toList (bodyOf Tryz.f141) := by kernel_rfl
theorem k141 : t141 := by
  unfold t141
  delta q5 q160 q84 q74 q69 q19 q188 q189 q399 q187 lnZ q40 wyZ q403 wiZ q379 q482 q494
  rintro ⟨b, _⟩ hx hp
  have hp : b.length ≤ 1000000000 := hp
  have hb : Bys b := sl_bys hx.1
  try dsimp +instances only [dft_int, dft_sl, dft_str]
  simp only [true_and, and_true, eq_self_iff_true, implies_true, reduceCtorEq, false_implies, true_implies, decide_eq_true_eq, decide_eq_false_iff_not, beq_self_eq_true, Bool.not_eq_true', ne_eq, Decidable.not_not, List.nil_append, List.length_singleton, List.length_cons, List.length_nil, Nat.zero_add, Nat.add_zero, Nat.mul_one, and_self, beq_iff_eq, Bool.not_true, Bool.not_false, Bool.not_eq_false', Bool.cond_false_right, Bool.and_eq_true, imp_self, Bool.not_eq_true, Bool.cond_true_left, Bool.or_eq_true]
  refine ⟨by decide, hp, ?_⟩
  rintro ⟨⟨t, c⟩, n, e, _⟩ _ eT
  simp only at eT ⊢
  have hok : e = 0 → n ≤ b.length := fun he => by
    have := take_ok hb (by rw [← eT]; exact he)
    rw [← eT] at this
    exact this.2
  refine ⟨by decide, fun h => ?_, fun h => ?_⟩
  . have := hok h.1
    rw [oneD, ← eT, if_pos ⟨h.1, by simp only; omega⟩]
  . rw [oneD, ← eT, if_neg (fun hh => by
      simp only [Bool.and_eq_false_iff, decide_eq_false_iff_not, Decidable.not_not] at h hh
      exact h.elim (fun h => h hh.1) (fun h => by omega))]
theorem h141 : c_r01_One.ok Tryz.prog GL 141 := con_ok (H := {}) (mkEnv_ok (gl := GL) (l := [(53, conSem c_r01_Take)]) (q := []) (d := []) _ tyOk (by kernel_rfl) ⟨h53.call, trivial⟩ trivial trivial) (by kernel_rfl) (by kernel_rfl) (Eq.mp e141 k141)
def t52 : Prop :=
  ∀ (x : q5), (q160 x) -> lenB x.1 <= q84 -> ∃ (I : Int × Int × Int × Unit -> List Int × List q194 × List Int × List q194 × Unit -> Prop), ∃ (μ : Int × Int × Int × Unit -> List Int × List
  q194 × List Int × List q194 × Unit -> Nat), (x.1 = x.1 /\ I (q40, q40, q40, ()) ([], [], [], [], ())) /\ ∀ (y : Int × Int × Int × Unit) (z : List Int × List q194 × List Int × List q194 ×
  Unit), (wiZ y.1 /\ wiZ y.2.1 /\ wiZ y.2.2.1 /\ True) -> (Kd.wf q206 z.1 /\ Kd.wf q192 z.2.1 /\ Kd.wf q206 z.2.2.1 /\ Kd.wf q192 z.2.2.2.1 /\ True) -> I y z -> (decide (y.1 < (lnZ x.1)) =
  true -> (q40 <= y.1 /\ y.1 <= (lnZ x.1)) /\ lenB (List.drop (Int.toNat y.1) x.1) <= q84 /\ (∀ (y_1 : q19), (q188 y_1) -> (y_1.1, y_1.2.1, y_1.2.2.1) = takeD (List.drop (Int.toNat y.1) x.1)
  -> q74 <= q69 /\ (decide (y_1.2.2.1 ≠ q40) = true -> z.2.1 = List.map (fun (x : q20) => x.2) (rowD x.1).1 /\ z.1 = List.map (fun (x : q20) => x.1) (rowD x.1).1 /\ (y.1, y_1.2.2.1) = (rowD
  x.1).2) /\ (decide (y_1.2.2.1 ≠ q40) = false -> q71 < q74 /\ (List.length z.2.1 + List.length [(y_1.1.1, y_1.1.2)]) * (32 : Nat) <= q159 /\ List.length z.2.1 + List.length [(y_1.1.1,
  y_1.1.2)] <= q158 /\ q71 < q42 /\ (List.length z.1 + List.length [y.1]) * q480 <= q159 /\ List.length z.1 + List.length [y.1] <= q158 /\ x.1 = x.1 /\ I (wrZ (y.1 + y_1.2.1), y.2.1, y.2.2.1,
  ()) (z.1 ++ [y.1], z.2.1 ++ [(y_1.1.1, y_1.1.2)], z.2.2.1, z.2.2.2.1, ()) /\ μ (wrZ (y.1 + y_1.2.1), y.2.1, y.2.2.1, ()) (z.1 ++ [y.1], z.2.1 ++ [(y_1.1.1, y_1.1.2)], z.2.2.1, z.2.2.2.1,
  ()) < μ y z)) /\ True) /\ (decide (y.1 < (lnZ x.1)) = false -> z.2.1 = List.map (fun (x : q20) => x.2) (rowD x.1).1 /\ z.1 = List.map (fun (x : q20) => x.1) (rowD x.1).1 /\ (y.1, q40) =
  (rowD x.1).2)
theorem e52 : t52 = Con.vc c_r01_Row GL (mkEnv ty [(53, conSem c_r01_Take)] [] [] [0, 2, 3, 4, 5, 6, 7, 8, 9, 10, 11, 15, 25]) {} Tryz.f52.ntmps Tryz.f52.results.toList (bodyOf Tryz.f52) := by kernel_rfl
theorem k52 : t52 := by
  unfold t52
  delta q5 q160 q84 q194 q40 wiZ q206 q192 lnZ q19 q188 q74 q69 q20 q71 q159 q158 q42 q480 wrZ wyZ q494 q403
  rintro ⟨b, _⟩ hx hp
  have hp : b.length ≤ 1000000000 := hp
  have hb : Bys b := sl_bys hx.1
  try dsimp +instances only [dft_int, dft_sl, dft_str]
  simp only [true_and, and_true, eq_self_iff_true, implies_true, reduceCtorEq, false_implies, true_implies, decide_eq_true_eq, decide_eq_false_iff_not, beq_self_eq_true, Bool.not_eq_true', ne_eq, Decidable.not_not, List.nil_append, List.length_singleton, List.length_cons, List.length_nil, Nat.zero_add, Nat.add_zero, Nat.mul_one, and_self, beq_iff_eq, Bool.not_true, Bool.not_false, Bool.not_eq_false', Bool.cond_false_right, Bool.and_eq_true, imp_self, Bool.not_eq_true, Bool.cond_true_left, Bool.or_eq_true]
  refine ⟨fun y z => 0 ≤ y.1 ∧ y.1 ≤ b.length ∧ (z.1 : List Int).length ≤ y.1 ∧ ∃ (k : Nat) (pre : List (Int × EltT)), (b.length : Int) - y.1 ≤ k ∧ rowD b = (pre ++ (rowR b k y.1).1, (rowR b k y.1).2) ∧ z.2.1 = pre.map (·.2) ∧ z.1 = pre.map (·.1), fun y _ => ((b.length : Int) - y.1).toNat, ⟨Int.le_refl 0, by simp only; omega, by simp, b.length, [], by simp only; omega, rfl, rfl, rfl⟩, ?_⟩
  rintro ⟨i, u1, u2, _⟩ ⟨ps, out, v1, v2, _⟩ _ _ ⟨i0, i1, hl, k, pre, hk, hr, eout, eps⟩
  simp only at i0 i1 hl hk hr eout eps ⊢
  have hlo : out.length = ps.length := by rw [eout, eps, List.length_map, List.length_map]
  refine ⟨fun hlt => ⟨⟨i0, by omega⟩, by rw [lenB, List.length_drop]; omega, ?_⟩, fun hge => ?_⟩
  . rintro ⟨⟨t, c⟩, n, e, _⟩ _ eT
    simp only at eT ⊢
    obtain ⟨m, rfl⟩ : ∃ m, k = m + 1 := ⟨k - 1, by omega⟩
    have hbd : Bys (b.drop i.toNat) := bys_drop hb _
    refine ⟨by decide, fun he => ?_, fun he => ?_⟩
    . have bad : (takeD (b.drop i.toNat)).2.2 ≠ 0 := by rw [← eT]; exact he
      rw [row_bad b m i hlt bad, ← eT] at hr
      rw [hr]
      simp only [List.append_nil]
      exact ⟨eout, eps, by trivial⟩
    . subst he
      have ok : (takeD (b.drop i.toNat)).2.2 = 0 := by rw [← eT]
      have h2 := take_ok hbd ok
      rw [row_step b m i hlt ok] at hr
      rw [← eT] at h2 hr
      simp only at h2 hr
      rw [List.length_drop] at h2
      rw [wrapK (i + n) (by omega) (by omega)]
      refine ⟨by decide, by omega, by omega, by decide, by omega, by omega, ⟨by omega, by omega, by rw [List.length_append, List.length_singleton]; omega, m, pre ++ [(i, (t, c))], by omega, ?_, ?_, ?_⟩, by omega⟩
      . rw [hr]; simp
      . rw [eout]; simp
      . rw [eps]; simp
  . rw [row_end b k i hge] at hr
    rw [hr]
    simp only [List.append_nil]
    exact ⟨eout, eps, by trivial⟩
theorem h52 : c_r01_Row.ok Tryz.prog GL 52 := con_ok (H := {}) (mkEnv_ok (gl := GL) (l := [(53, conSem c_r01_Take)]) (q := []) (d := []) _ tyOk (by kernel_rfl) ⟨h53.call, trivial⟩ trivial trivial) (by kernel_rfl) (by kernel_rfl) (Eq.mp e52 k52)
def t182 : Prop :=
  ∀ (x : q5), (q160 x) -> lenB x.1 <= q84 -> lenB x.1 <= q84 /\ (∀ (y : q21), (q207 y) -> y.1 = List.map (fun (x : q20) => x.2) (rowD x.1).1 /\ y.2.1 = List.map (fun (x : q20) => x.1) (rowD
  x.1).1 /\ (y.2.2.1, y.2.2.2.1) = (rowD x.1).2 -> (decide (y.2.2.2.1 ≠ q40) = true -> ([], y.2.2.1, y.2.2.2.1) = allD x.1) /\ (decide (y.2.2.2.1 ≠ q40) = false -> (y.1, y.2.2.1, q40) = allD
  x.1)) /\ True
theorem e182 : t182 = Con.vc c_r01_All GL (mkEnv ty [(52, conSem c_r01_Row)] [] [] [0, 2, 3, 4, 5, 7, 8, 17]) {} Tryz.f182.ntmps Tryz.f182.results.toList (bodyOf Tryz.f182) := by kernel_rfl
theorem k182 : t182 := by
  unfold t182
  delta q5 q160 q84 q21 q207 q20 q40 wyZ q450 q494 wiZ q512
  rintro ⟨b, _⟩ hx hp
  have hp : b.length ≤ 1000000000 := hp
  try dsimp +instances only [dft_int, dft_sl, dft_str]
  simp only [true_and, and_true, eq_self_iff_true, implies_true, reduceCtorEq, false_implies, true_implies, decide_eq_true_eq, decide_eq_false_iff_not, beq_self_eq_true, Bool.not_eq_true', ne_eq, Decidable.not_not, List.nil_append, List.length_singleton, List.length_cons, List.length_nil, Nat.zero_add, Nat.add_zero, Nat.mul_one, and_self, beq_iff_eq, Bool.not_true, Bool.not_false, Bool.not_eq_false', Bool.cond_false_right, Bool.and_eq_true, imp_self, Bool.not_eq_true, Bool.cond_true_left, Bool.or_eq_true]
  refine ⟨hp, ?_⟩
  rintro ⟨l, ps, n, e, _⟩ _ ⟨h1, h2, h3⟩
  simp only at h1 h2 h3 ⊢
  refine ⟨fun he => ?_, fun he => ?_⟩
  . rw [allD, ← h3, if_pos he]
  . rw [allD, ← h3, if_neg (fun h => h he), h1]
theorem h182 : c_r01_All.ok Tryz.prog GL 182 := con_ok (H := {}) (mkEnv_ok (gl := GL) (l := [(52, conSem c_r01_Row)]) (q := []) (d := []) _ tyOk (by kernel_rfl) ⟨h52.call, trivial⟩ trivial trivial) (by kernel_rfl) (by kernel_rfl) (Eq.mp e182 k182)
end Go.Proofs.YtiofbnlbfmbodaaGreatDoor
end
section
namespace Go.Proofs.YtiofbnlbfmbodaaGreatDoor
open Go Go.Vc Go.Pl Go.Proofs
def c_r03_May : Con := { args := [.dat (.sl I64)], res := [.dat .bool], pre := fun _ => True, post := fun x y => y.1 = mayO x.1 }
def c_r03_Number : Con := { args := [.dat I64], res := [.own 5 U8], pre := fun x => 0 ≤ x.1 ∧ x.1 ≤ 2147483647, post := fun x y => y.1 = numO x.1 }
def c_r03_Encode : Con := { args := [.dat (.sl I64)], res := [.own 5 U8, .dat I64], pre := fun _ => True, post := fun x y => (y.1, y.2.1) = EncO x.1 }
end Go.Proofs.YtiofbnlbfmbodaaGreatDoor
end
section
namespace Go.Proofs.YtiofbnlbfmbodaaGreatDoor
open Go Go.Vc Go.Pl Go.Proofs
set_option linter.unusedVariables false
set_option linter.unusedSimpArgs false
abbrev q451 (p0 : q5) (p1 : q9) := (List.getD p0.1 (Int.toNat p1.1) (Kd.dft q494) < q482)
abbrev q208 (p0 : q5) (p1 : q9) := (decide (q451 p0 p1) = false -> (decide (q451 p0 p1) == false) = true /\ True)
abbrev q452 := (Kd.dft q494)
abbrev q209 (p0 : q5) (p1 : q9) := (bif decide (q451 p0 p1) then true else decide ((2147483647 : Int) < List.getD p0.1 (q384 p1) q452))
abbrev q210 (p0 : q5) (p1 : q9) := (decide (q451 p0 p1) == false)
abbrev q211 (p0 : q5) (p1 : q9) := (List.getD p0.1 (q384 p1) q452 < q379)
abbrev q212 (p0 : q9) (p1 : q5) := (q379 <= p0.1 /\ p0.1 < (lnZ p1.1))
abbrev q213 := (Kd.dft q494)
abbrev q214 (p0 : q1) := (wrZ (q487 + Int.tmod p0.1 q487))
abbrev q215 (p0 : q5) := (wrZ ((40 : Int) * List.getD p0.1 q402 q452) + List.getD p0.1 q387 q452)
abbrev q216 (p0 : q5) (p1 : q5) := (List.length p0.1 + List.length p1.1)
abbrev q217 (p0 : q1) := (p0.1 + q417)
def t150 : Prop :=
  ∀ (x : q5), (Kd.wf q206 x.1 /\ True) -> True -> (decide ((lnZ x.1) < q75) = false -> True) /\ (decide ((lnZ x.1) < q75) = false -> (decide ((lnZ x.1) < q75) == false) = true /\ True) /\
  (decide ((lnZ x.1) < q75) = false -> (decide ((lnZ x.1) < q75) == false) = true /\ True) /\ (decide ((lnZ x.1) < q75) = false -> (decide ((lnZ x.1) < q75) == false) = true) /\ ((bif decide
  ((lnZ x.1) < q75) then true else decide ((20 : Int) < (lnZ x.1))) = true -> false = mayO x.1) /\ ((bif decide ((lnZ x.1) < q75) then true else decide ((20 : Int) < (lnZ x.1))) = false -> ∃
  (I : q7), ∃ (μ : q8), (Value.bool false = Value.bool false /\ x.1 = x.1 /\ I (q40, false, ()) ()) /\ ∀ (y : q9) (z : Unit), (q83 y) -> True -> I y z -> (decide (y.1 < (lnZ x.1)) = true ->
  (q212 y x) /\ (decide (q211 x y) = false -> True) /\ (decide (q211 x y) = false -> True) /\ (decide (q211 x y) = false -> (q210 x y) = true /\ (q210 x y) = true /\ (q212 y x) /\ True) /\
  (q208 x y) /\ (q208 x y) /\ (decide (q211 x y) = false -> (q210 x y) = true) /\ ((q209 x y) = true -> false = mayO x.1) /\ ((q209 x y) = false -> Value.bool false = Value.bool false /\ x.1
  = x.1 /\ I (wrZ (q85 y), y.2.1, ()) () /\ μ (wrZ (q85 y), y.2.1, ()) () < μ y z)) /\ (decide (y.1 < (lnZ x.1)) = false -> (q64 x) /\ (decide (q75 < List.getD x.1 q71 q213) = true -> false =
  mayO x.1) /\ (decide (q75 < List.getD x.1 q71 q213) = false -> (q64 x) /\ (decide (List.getD x.1 q71 q213 < q75) = true -> (q65 x) /\ decide (List.getD x.1 q42 q213 <= (39 : Int)) = mayO
  x.1) /\ (decide (List.getD x.1 q71 q213 < q75) = false -> (q65 x) /\ decide (List.getD x.1 q42 q213 <= (2147483567 : Int)) = mayO x.1))))
theorem e150 : t150 = Con.vc c_r03_May GL (mkEnv ty [] [] [] [0, 2, 3, 11, 15, 29, 33, 37]) {} Tryz.f150.ntmps Tryz.f150.results.toList (bodyOf Tryz.f150) := by kernel_rfl
theorem k150 : t150 := by
  unfold t150
  delta q5 q206 lnZ q75 q7 q8 q40 q9 q83 q212 q211 q210 q208 q209 wrZ q85 q64 q71 q213 q65 q42 q494 wiZ wbZ q379 q384 q452 q451 q417 q482
  rintro ⟨l, _⟩ hx hp
  try dsimp +instances only [dft_int, dft_sl, dft_str]
  simp only [true_and, and_true, eq_self_iff_true, implies_true, reduceCtorEq, false_implies, true_implies, decide_eq_true_eq, decide_eq_false_iff_not, beq_self_eq_true, Bool.not_eq_true', ne_eq, Decidable.not_not, List.nil_append, List.length_singleton, List.length_cons, List.length_nil, Nat.zero_add, Nat.add_zero, Nat.mul_one, and_self, beq_iff_eq, Bool.not_true, Bool.not_false, Bool.not_eq_false', Bool.cond_false_right, Bool.and_eq_true, imp_self, Bool.not_eq_true, Bool.cond_true_left, Bool.or_eq_true]
  refine ⟨fun h => (may_len h).symm, fun h => ?_⟩
  simp only [Bool.or_eq_false_iff, decide_eq_false_iff_not] at h
  refine ⟨fun y _ => 0 ≤ y.1 ∧ y.1 ≤ l.length ∧ ∀ j, j < y.1.toNat → 0 ≤ l.getD j 0 ∧ l.getD j 0 ≤ 2147483647, fun y _ => ((l.length : Int) - y.1).toNat, ⟨Int.le_refl 0, by simp only; omega, fun j hj => by simp at hj⟩, ?_⟩
  rintro ⟨i, b, _⟩ _ _ ⟨i0, i1, i2⟩
  simp only at i0 i1 i2 ⊢
  have hw1 : IntKind.wrap .i64 (i + 1) = i + 1 := wrapK _ (by omega) (by omega)
  rw [hw1]
  refine ⟨fun hlt => ⟨⟨i0, hlt⟩, fun hn => ⟨hn, hn, i0, hlt⟩, fun hb => (may_in (by omega) hb).symm, fun hg => ⟨⟨by omega, by omega, fun j hj => ?_⟩, by omega⟩⟩, fun hge => ?_⟩
  . simp only [Bool.or_eq_false_iff, decide_eq_false_iff_not] at hg
    by_cases hji : j < i.toNat
    . exact i2 j hji
    . rw [show j = i.toNat by omega]; omega
  . have hr := may_rest (l := l) (by omega) (by omega) (fun j hj => i2 j (by omega))
    have h0 := i2 0 (by omega)
    rw [hr]
    refine ⟨⟨by omega, by omega⟩, fun e => by rw [if_neg (by omega), if_neg (by omega)], fun e0 => ⟨⟨by omega, by omega⟩, fun e => ⟨⟨by omega, by omega⟩, by rw [if_pos (by omega)]; exact decide_eq_decide.2 (by omega)⟩, fun e1 => ⟨⟨by omega, by omega⟩, by rw [if_neg (by omega), if_pos (by omega)]⟩⟩⟩
theorem h150 : c_r03_May.ok Tryz.prog GL 150 := con_ok (H := {}) (mkEnv_ok (gl := GL) (l := []) (q := []) (d := []) _ tyOk (by kernel_rfl) trivial trivial trivial) (by kernel_rfl) (by kernel_rfl) (Eq.mp e150 k150)
def t151 : Prop :=
  ∀ (x : q1), (q36 x) -> q40 <= x.1 /\ x.1 <= (2147483647 : Int) -> q96 ≠ q40 /\ q96 ≠ q40 /\ ∃ (I : q16), ∃ (μ : q17), (Value.slice none q71 q71 = Value.slice none q71 q71 /\ I (wrZ
  (Int.tdiv x.1 q96), ()) ([IntKind.wrap IntKind.u8 (Int.tmod x.1 q96)], ())) /\ ∀ (y : q1) (z : q5), (q36 y) -> (q160 z) -> I y z -> (decide (q40 < y.1) = true -> q96 ≠ q40 /\ q71 < q42 /\
  (List.length [IntKind.wrap IntKind.u8 (q214 y)] + List.length z.1) * q42 <= q159 /\ List.length [IntKind.wrap IntKind.u8 (q214 y)] + List.length z.1 <= q158 /\ q96 ≠ q40 /\ Value.slice none
  q71 q71 = Value.slice none q71 q71 /\ I (wrZ (Int.tdiv y.1 q96), ()) ([IntKind.wrap IntKind.u8 (q214 y)] ++ z.1, ()) /\ μ (wrZ (Int.tdiv y.1 q96), ()) ([IntKind.wrap IntKind.u8 (q214 y)] ++
  z.1, ()) < μ y z) /\ (decide (q40 < y.1) = false -> z.1 = numO x.1)
theorem e151 : t151 = Con.vc c_r03_Number GL (mkEnv ty [] [] [] [0, 2, 3, 11]) {} Tryz.f151.ntmps Tryz.f151.results.toList (bodyOf Tryz.f151) := by kernel_rfl
theorem k151 : t151 := by
  unfold t151
  delta q1 q36 q40 q96 q16 q17 q71 wrZ q5 q160 q42 q214 q159 q158 wiZ wyZ q487
  rintro ⟨n, _⟩ hx hp
  obtain ⟨p1, p2⟩ := hp
  simp only at p1 p2
  have h4 := small4 p2
  try dsimp +instances only [dft_int, dft_sl, dft_str]
  simp only [true_and, and_true, eq_self_iff_true, implies_true, reduceCtorEq, false_implies, true_implies, decide_eq_true_eq, decide_eq_false_iff_not, beq_self_eq_true, Bool.not_eq_true', ne_eq, Decidable.not_not, List.nil_append, List.length_singleton, List.length_cons, List.length_nil, Nat.zero_add, Nat.add_zero, Nat.mul_one, and_self, beq_iff_eq, Bool.not_true, Bool.not_false, Bool.not_eq_false', Bool.cond_false_right, Bool.and_eq_true, imp_self, Bool.not_eq_true, Bool.cond_true_left, Bool.or_eq_true]
  have hd : ∀ m : Int, 0 ≤ m → m ≤ 2147483647 → IntKind.wrap .i64 (m.tdiv 128) = m / 128 := fun m h0 h1 => by
    rw [Int.tdiv_eq_ediv_of_nonneg h0, wrapK _ (by omega) (by omega)]
  have hm : ∀ m : Int, 0 ≤ m → m.tmod 128 = m % 128 := fun m h0 => Int.tmod_eq_emod_of_nonneg h0
  rw [hd n p1 p2, hm n p1]
  refine ⟨by decide, by decide, fun y z => ∃ j : Nat, j ≤ 4 ∧ y.1 = n / 128 ^ (j + 1) ∧ z.1 = hiD j n ++ [n % 128] ∧ (0 < j → 0 < n / 128 ^ j), fun y _ => y.1.toNat, ⟨0, by omega, by simp, by simp only [hiD, List.nil_append]; rw [wrap_u8]; congr 1; omega, fun h => absurd h (by omega)⟩, ?_⟩
  rintro ⟨y, _⟩ ⟨z, _⟩ _ _ ⟨j, j4, ey, ez, hj⟩
  simp only at ey ez ⊢
  subst ez
  have e1 := pow_div n j j4
  have hb : 0 ≤ y ∧ y ≤ 2147483647 := by
    have : j = 0 ∨ j = 1 ∨ j = 2 ∨ j = 3 ∨ j = 4 := by omega
    rcases this with rfl | rfl | rfl | rfl | rfl <;> simp only [Nat.reduceAdd, Int.reducePow] at ey <;> omega
  refine ⟨fun hlt => ?_, fun hge => ?_⟩
  . have : j < 4 := by
      rcases Nat.lt_or_ge j 4 with h | h
      . exact h
      . rw [show j = 4 by omega] at e1 ey; omega
    rw [hd y hb.1 hb.2, hm y hb.1, wrapK (128 + y % 128) (by omega) (by omega)]
    have hl : (hiD j n ++ [n % 128]).length ≤ 5 := by rw [List.length_append, hi_length]; simp; omega
    refine ⟨by decide, by decide, by omega, by omega, by decide, ⟨j + 1, by omega, ?_, ?_, fun _ => by rw [← ey]; exact hlt⟩, by omega⟩
    . rw [pow_div n (j + 1) (by omega), ← ey]
    . rw [hiD, ← ey, wrap_u8]
      simp only [List.cons_append, List.nil_append]
      congr 1
      omega
  . have hN : hiN n = j := hi_is p1 j4 (by omega) hj
    rw [numO, hN]
theorem h151 : c_r03_Number.ok Tryz.prog GL 151 := con_ok (H := {}) (mkEnv_ok (gl := GL) (l := []) (q := []) (d := []) _ tyOk (by kernel_rfl) trivial trivial trivial) (by kernel_rfl) (by kernel_rfl) (Eq.mp e151 k151)
def t110 : Prop :=
  ∀ (x : q5), (Kd.wf q206 x.1 /\ True) -> True -> True /\ (∀ (y : q4), (q47 y) -> y.1 = mayO x.1 -> ((!y.1) = true -> ([], q75) = EncO x.1) /\ ((!y.1) = false -> (q64 x) /\ (q65 x) /\ (q40 <=
  wrZ (q215 x) /\ wrZ (q215 x) <= (2147483647 : Int)) /\ (∀ (y : q5), (q160 y) -> y.1 = numO (wrZ (q215 x)) -> ∃ (I : q16), ∃ (μ : q17), (Value.bool false = Value.bool false /\ q40 = q40 /\
  Value.slice none q71 q71 = Value.slice none q71 q71 /\ x.1 = x.1 /\ I (q75, ()) (y.1, ())) /\ ∀ (y : q1) (z : q5), (q36 y) -> (q160 z) -> I y z -> (decide (y.1 < (lnZ x.1)) = true -> (q40
  <= y.1 /\ y.1 < (lnZ x.1)) /\ (q40 <= List.getD x.1 (q377 y) q213 /\ List.getD x.1 (q377 y) q213 <= (2147483647 : Int)) /\ (∀ (y_1 : q5), (q160 y_1) -> y_1.1 = numO (List.getD x.1 (q377 y)
  q213) -> q71 < q42 /\ (q216 z y_1) * q42 <= q159 /\ List.length z.1 + List.length y_1.1 <= q158 /\ Value.bool false = Value.bool false /\ q40 = q40 /\ Value.slice none q71 q71 = Value.slice
  none q71 q71 /\ x.1 = x.1 /\ I (wrZ (q217 y), ()) (z.1 ++ y_1.1, ()) /\ μ (wrZ (q217 y), ()) (z.1 ++ y_1.1, ()) < μ y z) /\ True) /\ (decide (y.1 < (lnZ x.1)) = false -> (z.1, q40) = EncO
  x.1)) /\ True)) /\ True
theorem e110 : t110 = Con.vc c_r03_Encode GL (mkEnv ty [(150, conSem c_r03_May), (151, conSem c_r03_Number)] [] [] [0, 2, 3, 4, 5, 8, 21]) {} Tryz.f110.ntmps Tryz.f110.results.toList (bodyOf Tryz.f110) := by kernel_rfl
theorem k110 : t110 := by
  unfold t110
  delta q5 q206 q4 q47 q75 q64 q65 q40 wrZ q215 q160 q16 q17 q71 q1 q36 lnZ q377 q213 q42 q216 q159 q158 q217 q494 wbZ q379 q417 q402 q452 q387 wyZ wiZ
  rintro ⟨l, _⟩ hx hp
  try dsimp +instances only [dft_int, dft_sl, dft_str]
  simp only [true_and, and_true, eq_self_iff_true, implies_true, reduceCtorEq, false_implies, true_implies, decide_eq_true_eq, decide_eq_false_iff_not, beq_self_eq_true, Bool.not_eq_true', ne_eq, Decidable.not_not, List.nil_append, List.length_singleton, List.length_cons, List.length_nil, Nat.zero_add, Nat.add_zero, Nat.mul_one, and_self, beq_iff_eq, Bool.not_true, Bool.not_false, Bool.not_eq_false', Bool.cond_false_right, Bool.and_eq_true, imp_self, Bool.not_eq_true, Bool.cond_true_left, Bool.or_eq_true]
  simp only [all_bool]
  refine ⟨fun h => by rw [EncO, h]; rfl, fun h => ?_⟩
  obtain ⟨h1, h2, h3, h4, h5⟩ := may_args h
  have hg : ∀ i, i < l.length → 0 ≤ l.getD i 0 ∧ l.getD i 0 ≤ 2147483647 := fun i hi => h3 _ (by
    rw [List.getD_eq_getElem?_getD, List.getElem?_eq_getElem hi]
    exact List.getElem_mem _)
  have g0 := hg 0 (by omega)
  have g1 := hg 1 (by omega)
  rw [wrapK (40 * l.getD 0 0) (by omega) (by omega), wrapK (40 * l.getD 0 0 + l.getD 1 0) (by omega) (by omega)]
  refine ⟨⟨by omega, by omega⟩, ⟨by omega, by omega⟩, ⟨h4, h5⟩, ?_⟩
  rintro ⟨a, _⟩ _ ea
  simp only at ea ⊢
  refine ⟨fun y z => 2 ≤ y.1 ∧ y.1 ≤ l.length ∧ z.1 = encP l y.1.toNat, fun y _ => ((l.length : Int) - y.1).toNat, ⟨by simp, by simp only; omega, by rw [ea]; exact (encP_two l).symm⟩, ?_⟩
  rintro ⟨i, _⟩ ⟨z, _⟩ _ _ ⟨i0, i1, ez⟩
  simp only at i0 i1 ez ⊢
  have hw1 : IntKind.wrap .i64 (i + 1) = i + 1 := wrapK _ (by omega) (by omega)
  rw [hw1]
  refine ⟨fun hlt => ⟨⟨by omega, hlt⟩, hg i.toNat (by omega), ?_⟩, fun hge => ?_⟩
  . rintro ⟨c, _⟩ _ ec
    simp only at ec ⊢
    have l1 := encP_len l i.toNat
    have l2 := num_length (l.getD i.toNat 0)
    rw [← ez] at l1
    rw [← ec] at l2
    refine ⟨by decide, by omega, by omega, ⟨by omega, by omega, ?_⟩, by omega⟩
    rw [show (i + 1).toNat = i.toNat + 1 by omega, encP_step (by omega) (by omega), ez, ec]
  . rw [EncO, h, if_pos rfl, ez, encP_all (by omega)]
theorem h110 : c_r03_Encode.ok Tryz.prog GL 110 := con_ok (H := {}) (mkEnv_ok (gl := GL) (l := [(150, conSem c_r03_May), (151, conSem c_r03_Number)]) (q := []) (d := []) _ tyOk (by kernel_rfl) ⟨h150.call, h151.call, trivial⟩ trivial trivial) (by kernel_rfl) (by kernel_rfl) (Eq.mp e110 k110)
end Go.Proofs.YtiofbnlbfmbodaaGreatDoor
end
