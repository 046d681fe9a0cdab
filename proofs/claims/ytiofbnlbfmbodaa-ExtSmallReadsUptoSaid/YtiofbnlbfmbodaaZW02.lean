/- Texts of a verified walk, led together: DerA, DerW, DerrA, DerrW. -/
import Derived.Test.YtiofbnlbfmbodaaZW01
import Derived.Test.YtiofbnlbfmbodaaZV06
set_option linter.unusedVariables false
set_option linter.unusedSimpArgs false
section
namespace Go.Proofs.Ytiofbnlbfmbodaa
open Go Go.Vc Go.Pl Go.Proofs
def c_der_isTag : Con := { args := [.dat I64], res := [.dat .bool], pre := fun _ => True, post := fun x y => y.1 = isTagD x.1 }
def c_der_length : Con := { args := [.dat I64], res := [.own 5 U8], pre := fun x => 0 ≤ x.1 ∧ x.1 ≤ 16777215, post := fun x y => y.1 = lngD x.1 }
def c_slices_Clone_byte_byte : Con := { args := [.dat BY], res := [.dat BY], pre := fun x => lenB x.1 ≤ 1000000000, post := fun x y => y.1 = x.1 }
def c_slices_Concat_byte_byte : Con := { args := [.dat (.sl BY)], res := [.own 5 U8], pre := fun x => lenF x.1 ≤ 1000000000, post := fun x y => y.1 = x.1.flatten }
def c_der_Put : Con := { args := [.dat BY, .dat I64, .dat (.sl BY)], res := [.own 5 U8, .dat I64], pre := fun x => lenB x.1 ≤ 900000000, post := fun x y => (y.1, y.2.1) = PutD x.1 x.2.1 x.2.2.1.flatten }
def c_der_head : Con := { args := [.dat BY], res := [.dat I64, .dat I64, .dat I64, .dat I64], pre := fun x => lenB x.1 ≤ 1000000000, post := fun x y => (y.1, y.2.1, y.2.2.1, y.2.2.2.1) = headK x.1 }
def c_der_Take : Con := { args := [.dat BY], res := [.dat ET, .dat I64, .dat I64], pre := fun x => lenB x.1 ≤ 1000000000, post := fun x y => (y.1, y.2.1, y.2.2.1) = takeD x.1 }
def c_der_One : Con := { args := [.dat BY], res := [.dat ET, .dat I64], pre := fun x => lenB x.1 ≤ 1000000000, post := fun x y => (y.1, y.2.1) = oneD x.1 }
def c_der_Size : Con := { args := [.dat I64], res := [.dat I64], pre := fun _ => True, post := fun x y => y.1 = sizeD x.1 }
def c_der_All : Con := { args := [.dat BY], res := [.own 84 ET, .dat I64, .dat I64], pre := fun x => lenB x.1 ≤ 1000000000, post := fun x y => (y.1, y.2.1, y.2.2.1) = allD x.1 }
end Go.Proofs.Ytiofbnlbfmbodaa
end
section
namespace Go.Proofs.Ytiofbnlbfmbodaa
open Go Go.Vc Go.Pl Go.Proofs
set_option linter.unusedVariables false
set_option linter.unusedSimpArgs false
abbrev wrZ (x : Int) : Int := IntKind.wrap IntKind.i64 x
abbrev wiZ (x : Int) : Prop := Kd.wf (Kd.int IntKind.i64) x
abbrev wbZ (x : Bool) : Prop := Kd.wf Kd.bool x
abbrev wyZ (x : List Int) : Prop := Kd.wf (Kd.sl (Kd.int IntKind.u8)) x
abbrev lnZ {α : Type} (x : List α) : Int := (↑(List.length x) : Int)
abbrev q0 := (Int × Unit)
abbrev q1 := (List Int × Unit)
abbrev q2 := (Int × Int × Unit -> Unit -> Prop)
abbrev q3 := (Int × Int × Unit -> Unit -> Nat)
abbrev q4 := (Int × Int × Unit)
abbrev q5 := (Int × Unit -> List Int × Unit -> Prop)
abbrev q6 := (Int × Unit -> List Int × Unit -> Nat)
abbrev q7 := (Bool × Unit)
abbrev q8 := ((Int × List Int) × Int × Int × Unit)
abbrev q174 (p0 : q0) := (bif decide ((0 : Int) <= p0.1) then decide (p0.1 <= (255 : Int)) else false)
abbrev q14 (p0 : q0) := ((q174 p0) = true -> ((q174 p0) == true) = true /\ True)
abbrev q175 (p0 : q0) := ((0 : Int) <= p0.1)
abbrev q15 (p0 : q0) := (decide (q175 p0) = true -> (decide (q175 p0) == true) = true /\ True)
abbrev q16 (p0 : q0) := (decide (q175 p0) = true -> (decide (q175 p0) == true) = true)
abbrev q17 (p0 : q0) := (wiZ p0.1 /\ True)
abbrev q18 := (255 : Int)
abbrev q19 := (128 : Int)
abbrev q20 := (256 : Int)
abbrev q21 := (0 : Int)
abbrev q22 := (8 : Int)
abbrev q23 := (2 : Int)
abbrev q24 := (9223372036854775807 : Nat)
abbrev q25 := (140737488355328 : Nat)
abbrev q26 := (1000000000 : Nat)
abbrev q27 (p0 : q1) := (wyZ p0.1 /\ True)
abbrev q28 := (0 : Nat)
abbrev q29 := (1 : Nat)
abbrev q179 := (0 : Int)
abbrev q182 := (0 : Nat)
abbrev q221 := (Kd.int IntKind.u8)
abbrev q192 := (Kd.dft (Kd.sl q221))
abbrev q193 := (1 : Int)
abbrev q30 (p0 : q0) (p1 : List (List Int) × Unit) (p2 : q1) (p3 : q4) (p4 : q5) (p5 : q6) := (decide (p0.1 < (lnZ p1.1)) = true -> (q179 <= p0.1 /\ p0.1 < (lnZ p1.1)) /\ q182 < (1 : Nat)
  /\ (List.length p2.1 + List.length (List.getD p1.1 (Int.toNat p0.1) q192)) * (1 : Nat) <= (140737488355328 : Nat) /\ List.length p2.1 + List.length (List.getD p1.1 (Int.toNat p0.1) q192) <=
  (9223372036854775807 : Nat) /\ (lnZ p1.1) = (lnZ p1.1) /\ p1.1 = p1.1 /\ Value.bool false = Value.bool false /\ p3.1 = p3.1 /\ (lnZ p1.1) = (lnZ p1.1) /\ p1.1 = p1.1 /\ p3.2.1 = p3.2.1 /\
  Value.slice none q182 q182 = Value.slice none q182 q182 /\ p1.1 = p1.1 /\ p4 (wrZ (p0.1 + q193), ()) (p2.1 ++ List.getD p1.1 (Int.toNat p0.1) q192, ()) /\ p5 (wrZ (p0.1 + q193), ()) (p2.1
  ++ List.getD p1.1 (Int.toNat p0.1) q192, ()) < p5 p0 p2)
abbrev q176 (p0 : q4) := (p0.2.1 - wrZ ((0 : Int) - (0 : Int)))
abbrev q194 := (Kd.dft q221)
abbrev q31 (p0 : q4) := (List.replicate (Int.toNat (wrZ (q176 p0))) q194)
abbrev q32 (p0 : q4) (p1 : List (List Int) × Unit) := (p0.2.1 + (lnZ (List.getD p1.1 (Int.toNat p0.1) q192)))
abbrev q33 (p0 : q4) := (wiZ p0.1 /\ wiZ p0.2.1 /\ True)
abbrev q34 := (Kd.sl q221)
abbrev q35 (p0 : q4) := (p0.1 + q193)
abbrev q36 (p0 : List Int × Int × List (List Int) × Unit) (p1 : Int × Int × Int × Unit) := (lnZ (List.getD p0.2.2.1 (Int.toNat p1.1) q192))
abbrev q37 := (1 : Int)
abbrev q235 (p0 : q1) := (List.getD p0.1 (1 : Nat) (Kd.dft (Kd.int IntKind.u8)))
abbrev q223 (p0 : q1) := (wrZ (q235 p0) - (128 : Int))
abbrev q195 (p0 : q1) := (bif decide (wrZ (q223 p0) = (0 : Int)) then true else decide ((3 : Int) < wrZ (q223 p0)))
abbrev q38 (p0 : q1) := (((q195 p0) == false && (q195 p0) == false) = true -> decide ((2 : Int) < (lnZ p0.1)) = true -> ((q195 p0) == false && (q195 p0) == false && decide ((2 : Int) < (lnZ
  p0.1)) == true) = true /\ True)
abbrev q39 (p0 : q1) := ((q195 p0) == false && (q195 p0) == false && decide ((2 : Int) < (lnZ p0.1)) == true)
abbrev q177 (p0 : q1) := ((bif decide (wrZ (q223 p0) = (0 : Int)) then true else decide ((3 : Int) < wrZ (q223 p0))) == false)
abbrev q40 (p0 : q1) := ((q195 p0) = false -> (q177 p0) = true /\ True)
abbrev q41 (p0 : q1) := ((q195 p0) == false && (q195 p0) == false)
abbrev q196 (p0 : q1) := (wrZ (q223 p0) = (0 : Int))
abbrev q197 (p0 : q1) := ((3 : Int) < wrZ (q223 p0))
abbrev q42 (p0 : q1) := (bif bif decide (q196 p0) then true else decide (q197 p0) then true else bif decide ((2 : Int) < (lnZ p0.1)) then decide (List.getD p0.1 (2 : Nat) q194 = q179) else
  false)
abbrev q222 (p0 : q1) := (Int.toNat (wrZ ((2 : Int) + wrZ (wrZ (q235 p0) - (128 : Int)))))
abbrev q198 (p0 : q1) := (List.drop (2 : Nat) (List.take (q222 p0) p0.1))
abbrev q43 (p0 : q4) (p1 : q1) := (↑(BitVec.toNat (BitVec.ofInt (64 : Nat) (wrZ (p0.2.1 * (2 : Int) ^ (8 : Nat))) ||| BitVec.ofInt (64 : Nat) (wrZ (List.getD (q198 p1) (Int.toNat p0.1)
  q194)))) : Int)
abbrev q44 (p0 : q1) := ((q195 p0) = false -> True)
abbrev q45 (p0 : q1) := (bif decide (q196 p0) then true else decide (q197 p0))
abbrev q46 (p0 : q4) (p1 : q1) := (p0.1 < (lnZ (q198 p1)))
abbrev q47 (p0 : q1) := (lnZ (q198 p0))
abbrev q48 (p0 : q1) := (List.take (q222 p0) p0.1)
abbrev q49 (p0 : q1) := (decide (q196 p0) == false)
abbrev q50 (p0 : q1) := ((lnZ p0.1) < wrZ ((2 : Int) + wrZ (wrZ (q235 p0) - (128 : Int))))
abbrev q51 (p0 : q1) := (wrZ (q223 p0) = q179)
abbrev q52 (p0 : q1) := ((2 : Int) + wrZ (q223 p0))
abbrev q229 := (Kd.dft (Kd.int IntKind.u8))
abbrev q199 (p0 : q1) := (List.getD p0.1 (1 : Nat) q229)
abbrev q53 (p0 : q1) := (wrZ (q199 p0) - (128 : Int))
abbrev q224 (p0 : q1) := (List.getD p0.1 (0 : Nat) (Kd.dft (Kd.int IntKind.u8)))
abbrev q54 (p0 : q1) := (wrZ (q224 p0))
abbrev q55 (p0 : q1) := (List.getD p0.1 q182 q194)
abbrev q56 (p0 : q1) := (List.getD p0.1 (1 : Nat) q194)
abbrev q57 (p0 : q1) := (q179 <= q179 /\ q179 < (lnZ p0.1))
abbrev q58 (p0 : q1) := (q179 <= q193 /\ q193 < (lnZ p0.1))
abbrev q59 (p0 : q1) := ((lnZ p0.1) = q179)
abbrev q60 (p0 : q1) := ((2 : Int) < (lnZ p0.1))
abbrev q61 := (10 : Int)
abbrev q62 := (2 : Nat)
abbrev q178 (p0 : Int × Int × Int × Int × Unit) := (p0.2.2.2.1 = (0 : Int))
abbrev q63 (p0 : Int × Int × Int × Int × Unit) := (decide (q178 p0) = true -> (decide (q178 p0) == true) = true /\ (decide (q178 p0) == true) = true /\ True)
abbrev q64 := (65536 : Nat)
abbrev q183 := (Kd.pair (Kd.int IntKind.i64) (Kd.sl q221))
abbrev q65 (p0 : q8) := (Kd.wf q183 p0.1 /\ wiZ p0.2.1 /\ wiZ p0.2.2.1 /\ True)
abbrev q181 (p0 : q0) (p1 : q0) (p2 : q8) := (wrZ (p0.1 + p1.1) + (lnZ p2.1.2))
abbrev q200 (p0 : q8) (p1 : q1) (p2 : Int × Unit -> Unit × (Int × Unit) × (List Int × Unit) × List (Int × List Int) × Unit -> Prop) (p3 : q0) (p4 : Unit × (Int × Unit) × (List Int × Unit) ×
  List (Int × List Int) × Unit) (p5 : Int × Unit -> Unit × (Int × Unit) × (List Int × Unit) × List (Int × List Int) × Unit -> Nat) := ((True /\ (∀ (y_2 : q0), (wiZ y_2.1 /\ True) -> y_2.1 =
  sizeD (lnZ p0.1.2) -> ((((0 : Int) = (0 : Int) /\ (0 : Int) = (0 : Int) /\ Value.slice none (0 : Nat) (0 : Nat) = Value.slice none (0 : Nat) (0 : Nat) /\ p1.1 = p1.1 /\ p2 (wrZ (p3.1 +
  p0.2.1), ()) ((), (wrZ (wrZ (p3.1 + y_2.1) + (lnZ p0.1.2)), ()), (p4.2.2.1.1, ()), p4.2.2.2.1 ++ [(p0.1.1, p0.1.2)], ()) /\ p5 (wrZ (p3.1 + p0.2.1), ()) ((), (wrZ (wrZ (p3.1 + y_2.1) + (lnZ
  p0.1.2)), ()), (p4.2.2.1.1, ()), p4.2.2.2.1 ++ [(p0.1.1, p0.1.2)], ()) < p5 p3 p4) /\ True) /\ True) /\ True) /\ True) /\ True)
abbrev q66 (p0 : q8) (p1 : q1) (p2 : Int × Unit -> Unit × (Int × Unit) × (List Int × Unit) × List (Int × List Int) × Unit -> Prop) (p3 : q0) (p4 : Unit × (Int × Unit) × (List Int × Unit) ×
  List (Int × List Int) × Unit) (p5 : Int × Unit -> Unit × (Int × Unit) × (List Int × Unit) × List (Int × List Int) × Unit -> Nat) := (((True /\ (∀ (y_2 : q0), (wiZ y_2.1 /\ True) -> y_2.1 =
  sizeD (lnZ p0.1.2) -> ((((q179 = q179 /\ q179 = q179 /\ Value.slice none q182 q182 = Value.slice none q182 q182 /\ p1.1 = p1.1 /\ p2 (wrZ (p3.1 + p0.2.1), ()) ((), (wrZ (q181 p3 y_2 p0),
  ()), (p4.2.2.1.1, ()), p4.2.2.2.1 ++ [(p0.1.1, p0.1.2)], ()) /\ p5 (wrZ (p3.1 + p0.2.1), ()) ((), (wrZ (q181 p3 y_2 p0), ()), (p4.2.2.1.1, ()), p4.2.2.2.1 ++ [(p0.1.1, p0.1.2)], ()) < p5 p3
  p4) /\ True) /\ True) /\ True) /\ ((((q179 = q179 /\ q179 = q179 /\ Value.slice none q182 q182 = Value.slice none q182 q182 /\ p1.1 = p1.1 /\ p2 (wrZ (p3.1 + p0.2.1), ()) ((), (wrZ (q181 p3
  y_2 p0), ()), (p4.2.2.1.1, ()), p4.2.2.2.1 ++ [(p0.1.1, p0.1.2)], ()) /\ p5 (wrZ (p3.1 + p0.2.1), ()) ((), (wrZ (q181 p3 y_2 p0), ()), (p4.2.2.1.1, ()), p4.2.2.2.1 ++ [(p0.1.1, p0.1.2)],
  ()) < p5 p3 p4) /\ True) /\ True) /\ True) /\ True) /\ True) /\ (q200 p0 p1 p2 p3 p4 p5) /\ True) /\ ((q200 p0 p1 p2 p3 p4 p5) /\ True) /\ True)
abbrev q67 (p0 : Unit × (Int × Unit) × (List Int × Unit) × List (Int × List Int) × Unit) (p1 : q1) := (decide (p0.2.1.1 = (lnZ p1.1)) = false -> (q179 <= p0.2.1.1 /\ p0.2.1.1 <= (lnZ p1.1))
  /\ lenB (List.drop (Int.toNat p0.2.1.1) p1.1) <= (1000000000 : Nat) /\ (∀ (y : q8), (Kd.wf q183 y.1 /\ wiZ y.2.1 /\ wiZ y.2.2.1 /\ True) -> (y.1, y.2.1, y.2.2.1) = takeD (List.drop
  (Int.toNat p0.2.1.1) p1.1) -> (2 : Nat) <= (65536 : Nat) /\ ([], p0.2.1.1, y.2.2.1) = allD p1.1) /\ True)
abbrev q68 := (Kd.sl q183)
abbrev q69 := (Int × List Int)
abbrev q180 (p0 : q8) (p1 : q1) (p2 : Int × Unit -> Unit × (Int × Unit) × (List Int × Unit) × List q69 × Unit -> Prop) (p3 : q0) (p4 : Unit × (Int × Unit) × (List Int × Unit) × List q69 ×
  Unit) (p5 : Int × Unit -> Unit × (Int × Unit) × (List Int × Unit) × List q69 × Unit -> Nat) := ((True /\ (∀ (y_2 : q0), (wiZ y_2.1 /\ True) -> y_2.1 = sizeD (lnZ p0.1.2) -> ((((0 : Int) =
  (0 : Int) /\ (0 : Int) = (0 : Int) /\ Value.slice none (0 : Nat) (0 : Nat) = Value.slice none (0 : Nat) (0 : Nat) /\ p1.1 = p1.1 /\ p2 (wrZ (p3.1 + p0.2.1), ()) ((), (wrZ (wrZ (p3.1 +
  y_2.1) + (lnZ p0.1.2)), ()), (p4.2.2.1.1, ()), p4.2.2.2.1 ++ [(p0.1.1, p0.1.2)], ()) /\ p5 (wrZ (p3.1 + p0.2.1), ()) ((), (wrZ (wrZ (p3.1 + y_2.1) + (lnZ p0.1.2)), ()), (p4.2.2.1.1, ()),
  p4.2.2.2.1 ++ [(p0.1.1, p0.1.2)], ()) < p5 p3 p4) /\ True) /\ True) /\ True) /\ True) /\ True)
def t103 : Prop :=
  ∀ (x : q0), (q17 x) -> True -> (decide (q175 x) = true -> True) /\ (q15 x) /\ (q16 x) /\ ((q174 x) = true -> True) /\ (q14 x) /\ (q14 x) /\ ((q174 x) = true -> ((q174 x) == true) = true) /\
  (bif bif decide (q175 x) then decide (x.1 <= q18) else false then decide (wrZ (↑(BitVec.toNat (BitVec.ofInt (64 : Nat) x.1 &&& BitVec.ofInt (64 : Nat) (31 : Int))) : Int) ≠ (31 : Int)) else
  false) = isTagD x.1
theorem e103 : t103 = Con.vc c_der_isTag GL (mkEnv ty [] [] [] [0, 2]) {} Try.f103.ntmps Try.f103.results.toList (bodyOf Try.f103) := by kernel_rfl
theorem k103 : t103 := by
  unfold t103
  delta q0 q17 q175 q15 q16 q174 q14 q18 wrZ wiZ
  rintro ⟨t, _⟩ hx hp
  try dsimp +instances only [dft_int, dft_sl, dft_str]
  simp only [true_and, and_true, eq_self_iff_true, implies_true, reduceCtorEq, false_implies, true_implies, decide_eq_true_eq, decide_eq_false_iff_not, beq_self_eq_true, Bool.not_eq_true', ne_eq, Decidable.not_not, List.nil_append, List.length_singleton, List.length_cons, List.length_nil, Nat.zero_add, Nat.add_zero, Nat.mul_one, and_self, beq_iff_eq, Bool.not_true, Bool.not_false, Bool.not_eq_false', Bool.cond_false_right, Bool.and_eq_true, imp_self, Bool.not_eq_true, Bool.cond_true_left, Bool.or_eq_true]
  exact isTag_eq t
theorem h103 : c_der_isTag.ok Try.prog GL 103 := con_ok (H := {}) (mkEnv_ok (gl := GL) (l := []) (q := []) (d := []) _ tyOk (by kernel_rfl) trivial trivial trivial) (by kernel_rfl) (by kernel_rfl) (Eq.mp e103 k103)
def t105 : Prop :=
  ∀ (x : q0), (q17 x) -> q21 <= x.1 /\ x.1 <= (16777215 : Int) -> (decide (x.1 < q19) = true -> [IntKind.wrap IntKind.u8 x.1] = lngD x.1) /\ (decide (x.1 < q19) = false -> (decide (x.1 < q20)
  = true -> [(129 : Int), IntKind.wrap IntKind.u8 x.1] = lngD x.1) /\ (decide (x.1 < q20) = false -> (decide (x.1 < (65536 : Int)) = true -> q21 <= q22 /\ [(130 : Int), IntKind.wrap
  IntKind.u8 (Int.fdiv x.1 (q23 ^ (8 : Nat))), IntKind.wrap IntKind.u8 x.1] = lngD x.1) /\ (decide (x.1 < (65536 : Int)) = false -> q21 <= (16 : Int) /\ q21 <= q22 /\ [(131 : Int),
  IntKind.wrap IntKind.u8 (Int.fdiv x.1 (q23 ^ (16 : Nat))), IntKind.wrap IntKind.u8 (Int.fdiv x.1 (q23 ^ (8 : Nat))), IntKind.wrap IntKind.u8 x.1] = lngD x.1)))
theorem e105 : t105 = Con.vc c_der_length GL (mkEnv ty [] [] [] [0, 2, 3, 9, 15]) {} Try.f105.ntmps Try.f105.results.toList (bodyOf Try.f105) := by kernel_rfl
theorem k105 : t105 := by
  unfold t105
  delta q0 q17 q21 q19 q20 q22 q23 wiZ
  rintro ⟨n, _⟩ hx hp
  obtain ⟨h0, h1⟩ := hp
  simp only at h0 h1
  try dsimp +instances only [dft_int, dft_sl, dft_str]
  simp only [true_and, and_true, eq_self_iff_true, implies_true, reduceCtorEq, false_implies, true_implies, decide_eq_true_eq, decide_eq_false_iff_not, beq_self_eq_true, Bool.not_eq_true', ne_eq, Decidable.not_not, List.nil_append, List.length_singleton, List.length_cons, List.length_nil, Nat.zero_add, Nat.add_zero, Nat.mul_one, and_self, beq_iff_eq, Bool.not_true, Bool.not_false, Bool.not_eq_false', Bool.cond_false_right, Bool.and_eq_true, imp_self, Bool.not_eq_true, Bool.cond_true_left, Bool.or_eq_true]
  have e8 := (fdiv_pow h0).1
  have e16 := (fdiv_pow h0).2
  rw [e8, e16, wrap_u8m, wrap_u8m, wrap_u8m]
  refine ⟨fun h => ?_, fun h => ⟨fun h2 => ?_, fun h2 => ⟨fun h3 => ⟨by decide, ?_⟩, fun h3 => ⟨by decide, by decide, ?_⟩⟩⟩⟩
  . rw [lngD, if_pos h, show n % 256 = n by omega]
  . rw [lngD, if_neg h, if_pos h2, show n % 256 = n by omega]
  . rw [lngD, if_neg h, if_neg h2, if_pos h3, show n / 256 % 256 = n / 256 by omega]
  . rw [lngD, if_neg h, if_neg h2, if_neg h3, show n / 65536 % 256 = n / 65536 by omega]
theorem h105 : c_der_length.ok Try.prog GL 105 := con_ok (H := {}) (mkEnv_ok (gl := GL) (l := []) (q := []) (d := []) _ tyOk (by kernel_rfl) trivial trivial trivial) (by kernel_rfl) (by kernel_rfl) (Eq.mp e105 k105)
def t40 : Prop :=
  ∀ (x : q1), (q27 x) -> lenB x.1 <= q26 -> ∀ (b : Bool), (b = true -> x.1 = []) -> (b = true -> [] = x.1) /\ (b = false -> q28 < q29 /\ (q28 + List.length x.1) * q29 <= q25 /\ q28 +
  List.length x.1 <= q24 /\ [] ++ x.1 = x.1)
theorem e40 : t40 = Con.vc c_slices_Clone_byte_byte GL (mkEnv ty [] [] [] [0, 2, 4]) {} Try.f40.ntmps Try.f40.results.toList (bodyOf Try.f40) := by kernel_rfl
theorem k40 : t40 := by
  unfold t40
  delta q1 q27 q26 q28 q29 q25 q24 wyZ
  rintro ⟨l, _⟩ hx hp
  have hp : l.length ≤ 1000000000 := hp
  try dsimp +instances only [dft_int, dft_sl, dft_str]
  simp only [true_and, and_true, eq_self_iff_true, implies_true, reduceCtorEq, false_implies, true_implies, decide_eq_true_eq, decide_eq_false_iff_not, beq_self_eq_true, Bool.not_eq_true', ne_eq, Decidable.not_not, List.nil_append, List.length_singleton, List.length_cons, List.length_nil, Nat.zero_add, Nat.add_zero, Nat.mul_one, and_self, beq_iff_eq, Bool.not_true, Bool.not_false, Bool.not_eq_false', Bool.cond_false_right, Bool.and_eq_true, imp_self, Bool.not_eq_true, Bool.cond_true_left, Bool.or_eq_true]
  intro b hb
  exact ⟨fun h => (hb h).symm, fun _ => ⟨by decide, by omega, by omega⟩⟩
theorem h40 : c_slices_Clone_byte_byte.ok Try.prog GL 40 := con_ok (H := {}) (mkEnv_ok (gl := GL) (l := []) (q := []) (d := []) _ tyOk (by kernel_rfl) trivial trivial trivial) (by kernel_rfl) (by kernel_rfl) (Eq.mp e40 k40)
noncomputable def i119 : CallSem := cutSem <| vcFn (mkEnv ty [] [] [] [0, 1, 4, 6, 16]) {} Try.f119.ntmps Try.f119.results.toList (bodyOf Try.f119)
theorem i119_ok : CallOk Try.prog GL 119 i119 := cut_ok <| inl_ok {} (mkEnv_ok (gl := GL) (l := []) (q := []) (d := []) _ tyOk (by kernel_rfl) trivial trivial trivial) (by kernel_rfl) (by kernel_rfl)
def t104 : Prop :=
  ∀ (x : List (List Int) × Unit), (Kd.wf (Kd.sl q34) x.1 /\ True) -> lenF x.1 <= q26 -> ∃ (I : q2), ∃ (μ : q3), ((lnZ x.1) = (lnZ x.1) /\ x.1 = x.1 /\ Value.slice none q28 q28 = Value.slice
  none q28 q28 /\ x.1 = x.1 /\ I (q21, q21, ()) ()) /\ ∀ (y : q4) (z : Unit), (q33 y) -> True -> I y z -> (decide (y.1 < (lnZ x.1)) = true -> (q21 <= y.1 /\ y.1 < (lnZ x.1)) /\ (decide (wrZ
  (q32 y x) < q21) = true -> False) /\ (decide (wrZ (q32 y x) < q21) = false -> (lnZ x.1) = (lnZ x.1) /\ x.1 = x.1 /\ Value.slice none q28 q28 = Value.slice none q28 q28 /\ x.1 = x.1 /\ I
  (wrZ (q35 y), wrZ (q32 y x), ()) () /\ μ (wrZ (q35 y), wrZ (q32 y x), ()) () < μ y z)) /\ (decide (y.1 < (lnZ x.1)) = false -> (decide (y.2.1 < q21) = true -> False) /\ (decide (y.2.1 <
  q21) = false -> (decide (q21 < wrZ (q176 y)) = true -> (q21 <= q21 /\ q21 <= (↑q28 : Int)) /\ q21 < wrZ (q176 y) /\ wrZ (q176 y) <= (1000000000 : Int) /\ (q21 <= q21 /\ q21 <= (lnZ (q31
  y))) /\ q28 = q28 /\ ∃ (I : q5), ∃ (μ : q6), ((lnZ x.1) = (lnZ x.1) /\ x.1 = x.1 /\ Value.bool false = Value.bool false /\ y.1 = y.1 /\ (lnZ x.1) = (lnZ x.1) /\ x.1 = x.1 /\ y.2.1 = y.2.1
  /\ Value.slice none q28 q28 = Value.slice none q28 q28 /\ x.1 = x.1 /\ I (q21, ()) (List.take (q28 - q28) (q31 y), ())) /\ ∀ (y_1 : q0) (z : q1), (q17 y_1) -> (q27 z) -> I y_1 z -> (q30 y_1
  x z y I μ) /\ (decide (y_1.1 < (lnZ x.1)) = false -> z.1 = List.flatten x.1)) /\ (decide (q21 < wrZ (q176 y)) = false -> ∃ (I : q5), ∃ (μ : q6), ((lnZ x.1) = (lnZ x.1) /\ x.1 = x.1 /\
  Value.bool false = Value.bool false /\ y.1 = y.1 /\ (lnZ x.1) = (lnZ x.1) /\ x.1 = x.1 /\ y.2.1 = y.2.1 /\ Value.slice none q28 q28 = Value.slice none q28 q28 /\ x.1 = x.1 /\ I (q21, ())
  ([], ())) /\ ∀ (y_1 : q0) (z : q1), (q17 y_1) -> (q27 z) -> I y_1 z -> (q30 y_1 x z y I μ) /\ (decide (y_1.1 < (lnZ x.1)) = false -> z.1 = List.flatten x.1))))
theorem e104 : t104 = Con.vc c_slices_Concat_byte_byte GL (mkEnv ty [(119, i119)] [] [] [0, 2, 3, 5, 6, 8, 9, 10, 11, 12, 20, 25, 26, 27, 28]) {} Try.f104.ntmps Try.f104.results.toList (bodyOf Try.f104) := by kernel_rfl
theorem k104 : t104 := by
  unfold t104
  delta q34 q26 q2 q3 lnZ q28 q21 q4 q33 wrZ q32 q35 q176 q31 q5 q6 q0 q1 q17 q27 q30 q221 wiZ q192 q193 q194 wyZ q179 q182
  rintro ⟨xs, _⟩ hx hp
  have hp : xs.flatten.length ≤ 1000000000 := hp
  have hl : xs.length ≤ 9223372036854775807 := hx.1.1
  try dsimp +instances only [dft_int, dft_sl, dft_str]
  simp only [true_and, and_true, eq_self_iff_true, implies_true, reduceCtorEq, false_implies, true_implies, decide_eq_true_eq, decide_eq_false_iff_not, beq_self_eq_true, Bool.not_eq_true', ne_eq, Decidable.not_not, List.nil_append, List.length_singleton, List.length_cons, List.length_nil, Nat.zero_add, Nat.add_zero, Nat.mul_one, and_self, beq_iff_eq, Bool.not_true, Bool.not_false, Bool.not_eq_false', Bool.cond_false_right, Bool.and_eq_true, imp_self, Bool.not_eq_true, Bool.cond_true_left, Bool.or_eq_true]
  refine ⟨fun y z => 0 ≤ y.1 ∧ y.1 ≤ xs.length ∧ y.2.1 = ((xs.take y.1.toNat).flatten.length : Int), fun y z => xs.length - y.1.toNat, ⟨Int.le_refl 0, by simp only; omega, by simp⟩, ?_⟩
  rintro ⟨i, s, _⟩ z hy ⟨h0, h1, h2⟩
  simp only at h0 h1 h2 ⊢
  have hs := flat_bound xs i.toNat
  refine ⟨fun hlt => ?_, fun hge => ⟨fun h => by omega, fun _ => ⟨fun hpos => ?_, fun _ => flat_loop xs hl hp [] rfl⟩⟩⟩
  . have e := take_flat xs i.toNat (by omega)
    have hfl := flat_bound xs (i.toNat + 1)
    rw [e, List.length_append] at hfl
    have hw : IntKind.wrap .i64 (i + 1) = i + 1 := wrapM _ (by omega) (by omega)
    have hw2 : IntKind.wrap .i64 (s + ((xs.getD i.toNat []).length : Int)) = s + ((xs.getD i.toNat []).length : Int) := wrapK _ (by omega) (by omega)
    rw [hw, hw2]
    refine ⟨⟨h0, hlt⟩, fun h => by omega, fun _ => ⟨⟨by omega, by omega, ?_⟩, by omega⟩⟩
    rw [show (i + 1).toNat = i.toNat + 1 by omega, e, List.length_append]
    omega
  . have hw3 : IntKind.wrap .i64 (s - IntKind.wrap .i64 (0 - 0)) = s := by rw [show IntKind.wrap .i64 (0 - 0) = 0 by decide, wrapK _ (by omega) (by omega)]; omega
    rw [hw3] at hpos ⊢
    exact ⟨⟨by decide, by decide⟩, hpos, by omega, ⟨by decide, by omega⟩, flat_loop xs hl hp _ (by simp)⟩
theorem h104 : c_slices_Concat_byte_byte.ok Try.prog GL 104 := con_ok (H := {}) (mkEnv_ok (gl := GL) (l := [(119, i119)]) (q := []) (d := []) _ tyOk (by kernel_rfl) ⟨i119_ok, trivial⟩ trivial trivial) (by kernel_rfl) (by kernel_rfl) (Eq.mp e104 k104)
def t78 : Prop :=
  ∀ (x : List Int × Int × List (List Int) × Unit), (wyZ x.1 /\ wiZ x.2.1 /\ Kd.wf (Kd.sl q34) x.2.2.1 /\ True) -> lenB x.1 <= (900000000 : Nat) -> True /\ (∀ (y : q7), (wbZ y.1 /\ True) ->
  y.1 = isTagD x.2.1 -> ((!y.1) = true -> ([], q23) = PutD x.1 x.2.1 (List.flatten x.2.2.1)) /\ ((!y.1) = false -> ∃ (I : Int × Int × Int × Unit -> List Int × Unit -> Prop), ∃ (μ : Int × Int
  × Int × Unit -> List Int × Unit -> Nat), ((lnZ x.2.2.1) = (lnZ x.2.2.1) /\ x.2.2.1 = x.2.2.1 /\ Value.bool false = Value.bool false /\ x.1 = x.1 /\ x.2.1 = x.2.1 /\ x.2.2.1 = x.2.2.1 /\ I
  (q21, q21, q21, ()) ([], ())) /\ ∀ (y : Int × Int × Int × Unit) (z : q1), (wiZ y.1 /\ wiZ y.2.1 /\ wiZ y.2.2.1 /\ True) -> (q27 z) -> I y z -> (decide (y.1 < (lnZ x.2.2.1)) = true -> (q21
  <= y.1 /\ y.1 < (lnZ x.2.2.1)) /\ (decide (wrZ ((16777215 : Int) - y.2.1) < (q36 x y)) = true -> ([], (3 : Int)) = PutD x.1 x.2.1 (List.flatten x.2.2.1)) /\ (decide (wrZ ((16777215 : Int) -
  y.2.1) < (q36 x y)) = false -> (lnZ x.2.2.1) = (lnZ x.2.2.1) /\ x.2.2.1 = x.2.2.1 /\ Value.bool false = Value.bool false /\ x.1 = x.1 /\ x.2.1 = x.2.1 /\ x.2.2.1 = x.2.2.1 /\ I (wrZ (y.1 +
  q37), wrZ (y.2.1 + (q36 x y)), y.2.2.1, ()) (z.1, ()) /\ μ (wrZ (y.1 + q37), wrZ (y.2.1 + (q36 x y)), y.2.2.1, ()) (z.1, ()) < μ y z)) /\ (decide (y.1 < (lnZ x.2.2.1)) = false -> (q21 <=
  y.2.1 /\ y.2.1 <= (16777215 : Int)) /\ (∀ (y_1 : q1), (q27 y_1) -> y_1.1 = lngD y.2.1 -> lenF [x.1, [IntKind.wrap IntKind.u8 x.2.1], y_1.1] <= q26 /\ (∀ (y : q1), (q27 y) -> y.1 =
  List.flatten [x.1, [IntKind.wrap IntKind.u8 x.2.1], y_1.1] -> lenF x.2.2.1 <= q26 /\ (∀ (y_2 : q1), (q27 y_2) -> y_2.1 = List.flatten x.2.2.1 -> lenF [y.1, y_2.1] <= q26 /\ (∀ (y_3 : q1),
  (q27 y_3) -> y_3.1 = List.flatten [y.1, y_2.1] -> (y_3.1, q21) = PutD x.1 x.2.1 (List.flatten x.2.2.1)) /\ True) /\ True) /\ True) /\ True))) /\ True
theorem e78 : t78 = Con.vc c_der_Put GL (mkEnv ty [(103, conSem c_der_isTag), (105, conSem c_der_length), (104, conSem c_slices_Concat_byte_byte)] [] [] [0, 1, 2, 6, 7, 8, 10, 11, 14, 15, 16, 17, 18, 25]) {} Try.f78.ntmps Try.f78.results.toList (bodyOf Try.f78) := by kernel_rfl
theorem k78 : t78 := by
  unfold t78
  delta wyZ wiZ q34 q7 wbZ q23 lnZ q21 q1 q27 wrZ q36 q37 q26 q221 q192
  rintro ⟨b, t, cs, _⟩ hx hp
  have hp : b.length ≤ 900000000 := hp
  have hcl : cs.length ≤ 9223372036854775807 := hx.2.2.1.1
  try dsimp +instances only [dft_int, dft_sl, dft_str]
  simp only [true_and, and_true, eq_self_iff_true, implies_true, reduceCtorEq, false_implies, true_implies, decide_eq_true_eq, decide_eq_false_iff_not, beq_self_eq_true, Bool.not_eq_true', ne_eq, Decidable.not_not, List.nil_append, List.length_singleton, List.length_cons, List.length_nil, Nat.zero_add, Nat.add_zero, Nat.mul_one, and_self, beq_iff_eq, Bool.not_true, Bool.not_false, Bool.not_eq_false', Bool.cond_false_right, Bool.and_eq_true, imp_self, Bool.not_eq_true, Bool.cond_true_left, Bool.or_eq_true]
  rintro ⟨q, _⟩ _ eq
  simp only at eq ⊢
  subst eq
  refine ⟨fun h => by rw [PutD, if_pos h], fun h => ?_⟩
  refine ⟨fun y _ => 0 ≤ y.1 ∧ y.1 ≤ cs.length ∧ y.2.1 = ((cs.take y.1.toNat).flatten.length : Int) ∧ y.2.1 ≤ 16777215, fun y _ => ((cs.length : Int) - y.1).toNat, ⟨Int.le_refl 0, by simp only; omega, by simp, by decide⟩, ?_⟩
  rintro ⟨i, s, k, _⟩ _ _ _ ⟨h0, h1, h2, h3⟩
  simp only at h0 h1 h2 h3 ⊢
  refine ⟨fun hlt => ?_, fun hge => ?_⟩
  . have e := take_flat cs i.toNat (by omega)
    have hl := flat_bound cs (i.toNat + 1)
    rw [e, List.length_append] at hl
    rw [wrapK (16777215 - s) (by omega) (by omega), wrapM (i + 1) (by omega) (by omega)]
    refine ⟨⟨h0, hlt⟩, fun hb => ?_, fun hb => ?_⟩
    . rw [PutD, if_neg (by rw [h]; decide), if_pos (by omega)]
    . rw [wrapK (s + ((cs.getD i.toNat []).length : Int)) (by omega) (by omega)]
      refine ⟨⟨by omega, by omega, ?_, by omega⟩, by omega⟩
      rw [show (i + 1).toNat = i.toNat + 1 by omega, e, List.length_append]
      omega
  . have hs : s = (cs.flatten.length : Int) := by rw [h2, List.take_of_length_le (by omega)]
    have hll := lng_len (n := s)
    refine ⟨⟨by omega, h3⟩, ?_⟩
    rintro ⟨l, _⟩ _ el
    simp only at el ⊢
    subst el
    refine ⟨by simp only [lenF, List.flatten_cons, List.flatten_nil, List.length_append, List.length_cons, List.length_nil]; omega, ?_⟩
    rintro ⟨o, _⟩ _ eo
    simp only at eo ⊢
    refine ⟨by rw [lenF]; omega, ?_⟩
    rintro ⟨c, _⟩ _ ec
    simp only at ec ⊢
    have hol : o.length = b.length + 1 + (lngD s).length := by rw [eo]; simp; omega
    refine ⟨by simp only [lenF, List.flatten_cons, List.flatten_nil, List.length_append, List.length_nil]; rw [ec]; omega, ?_⟩
    rintro ⟨r, _⟩ _ er
    simp only at er ⊢
    obtain ⟨t0, t1, _⟩ := tag_range h
    rw [PutD, if_neg (by rw [h]; decide), if_neg (by omega), er, eo, ec, wrap8 t t0 t1, putB]
    simp only
    rw [← hs]
    simp
theorem h78 : c_der_Put.ok Try.prog GL 78 := con_ok (H := {}) (mkEnv_ok (gl := GL) (l := [(103, conSem c_der_isTag), (105, conSem c_der_length), (104, conSem c_slices_Concat_byte_byte)]) (q := []) (d := []) _ tyOk (by kernel_rfl) ⟨h103.call, h105.call, h104.call, trivial⟩ trivial trivial) (by kernel_rfl) (by kernel_rfl) (Eq.mp e78 k78)
def t110 : Prop :=
  ∀ (x : q1), (q27 x) -> lenB x.1 <= q26 -> (decide (q59 x) = true -> (q21, q21, q21, q61) = headK x.1) /\ (decide (q59 x) = false -> (q57 x) /\ True /\ (∀ (y : q7), (wbZ y.1 /\ True) -> y.1
  = isTagD (q54 x) -> ((!y.1) = true -> (q21, q21, q21, (11 : Int)) = headK x.1) /\ ((!y.1) = false -> (decide ((lnZ x.1) = q37) = true -> (q21, q21, q21, q61) = headK x.1) /\ (decide ((lnZ
  x.1) = q37) = false -> (q58 x) /\ (decide (wrZ (q53 x) < q21) = true -> (q57 x) /\ (q58 x) /\ (wrZ (q55 x), q23, wrZ (q56 x), q21) = headK x.1) /\ (decide (wrZ (q53 x) < q21) = false ->
  (decide (q51 x) = false -> True) /\ (decide (q51 x) = false -> (q49 x) = true /\ True) /\ (decide (q51 x) = false -> (q49 x) = true) /\ (q44 x) /\ (q40 x) /\ (q40 x) /\ (q44 x) /\ ((q41 x)
  = true -> decide (q60 x) = true -> True) /\ ((q41 x) = true -> decide (q60 x) = true -> (q39 x) = true /\ (q21 <= q23 /\ q23 < (lnZ x.1)) /\ True) /\ (q38 x) /\ (q38 x) /\ ((q45 x) = false
  -> (q41 x) = true /\ (decide (q60 x) = true -> (q39 x) = true) /\ True) /\ ((q45 x) = false -> (q177 x) = true) /\ ((q42 x) = true -> (q21, q21, q21, (12 : Int)) = headK x.1) /\ ((q42 x) =
  false -> (decide (q50 x) = true -> (q21, q21, q21, q61) = headK x.1) /\ (decide (q50 x) = false -> (q21 <= q23 /\ q23 <= wrZ (q52 x) /\ wrZ (q52 x) <= (lnZ x.1)) /\ ∃ (I : q2), ∃ (μ : q3),
  ((q47 x) = (q47 x) /\ List.drop q62 (q48 x) = List.drop q62 (q48 x) /\ Value.bool false = Value.bool false /\ Value.bool false = Value.bool false /\ Value.bool false = Value.bool false /\
  wrZ (q53 x) = wrZ (q53 x) /\ Value.bool false = Value.bool false /\ Value.bool false = Value.bool false /\ Value.bool false = Value.bool false /\ q21 = q21 /\ q21 = q21 /\ q21 = q21 /\ x.1
  = x.1 /\ I (q21, q21, ()) ()) /\ ∀ (y : q4) (z : Unit), (q33 y) -> True -> I y z -> (decide (q46 y x) = true -> (q21 <= y.1 /\ y.1 < (q47 x)) /\ q21 <= q22 /\ (q47 x) = (q47 x) /\ List.drop
  q62 (q48 x) = List.drop q62 (q48 x) /\ Value.bool false = Value.bool false /\ Value.bool false = Value.bool false /\ Value.bool false = Value.bool false /\ wrZ (q53 x) = wrZ (q53 x) /\
  Value.bool false = Value.bool false /\ Value.bool false = Value.bool false /\ Value.bool false = Value.bool false /\ q21 = q21 /\ q21 = q21 /\ q21 = q21 /\ x.1 = x.1 /\ I (wrZ (q35 y), wrZ
  (q43 y x), ()) () /\ μ (wrZ (q35 y), wrZ (q43 y x), ()) () < μ y z) /\ (decide (q46 y x) = false -> (decide (y.2.1 < q19) = true -> (q21, q21, q21, (12 : Int)) = headK x.1) /\ (decide
  (y.2.1 < q19) = false -> (q57 x) /\ (wrZ (q55 x), wrZ (q52 x), y.2.1, q21) = headK x.1)))))))) /\ True)
theorem e110 : t110 = Con.vc c_der_head GL (mkEnv ty [(103, conSem c_der_isTag)] [] [] [0, 2, 3, 4, 5, 6, 8, 9, 13, 20, 29, 40, 58, 67, 68, 69, 70, 80]) {} Try.f110.ntmps Try.f110.results.toList (bodyOf Try.f110) := by kernel_rfl
theorem k110 : t110 := by
  unfold t110
  delta q1 q27 q26 q59 q21 q61 q57 q7 wbZ q54 lnZ q37 q58 wrZ q53 q55 q23 q56 q51 q49 q44 q40 q41 q60 q39 q38 q45 q177 q42 q50 q52 q2 q3 q47 q62 q48 q4 q33 q46 q22 q35 q43 q19 wyZ q179 q224 q193 q199 q182 q194 q223 q196 q195 q197 q235 q198 q222 wiZ q229 q221
  rintro ⟨b, _⟩ hx hp
  have hp : b.length ≤ 1000000000 := hp
  have hb : Bys b := sl_bys hx.1
  try dsimp +instances only [dft_int, dft_sl, dft_str]
  simp only [true_and, and_true, eq_self_iff_true, implies_true, reduceCtorEq, false_implies, true_implies, decide_eq_true_eq, decide_eq_false_iff_not, beq_self_eq_true, Bool.not_eq_true', ne_eq, Decidable.not_not, List.nil_append, List.length_singleton, List.length_cons, List.length_nil, Nat.zero_add, Nat.add_zero, Nat.mul_one, and_self, beq_iff_eq, Bool.not_true, Bool.not_false, Bool.not_eq_false', Bool.cond_false_right, Bool.and_eq_true, imp_self, Bool.not_eq_true, Bool.cond_true_left, Bool.or_eq_true]
  have b0 := bys_get hb 0
  have b1 := bys_get hb 1
  rw [wrapK (b.getD 0 0) (by omega) (by omega), wrapK (b.getD 1 0) (by omega) (by omega), wrapK (b.getD 1 0 - 128) (by omega) (by omega), wrapK (2 + (b.getD 1 0 - 128)) (by omega) (by omega)]
  have hnil : b = [] ↔ (b.length : Int) = 0 := ⟨fun h => by rw [h]; rfl, fun h => List.eq_nil_of_length_eq_zero (by omega)⟩
  unfold headK
  refine ⟨fun h => by rw [if_pos (hnil.2 h)], fun h => ⟨⟨by decide, by omega⟩, ?_⟩⟩
  rw [if_neg (fun e => h (hnil.1 e))]
  rintro ⟨q, _⟩ _ eq
  simp only at eq ⊢
  subst eq
  refine ⟨fun h1 => by rw [if_pos h1], fun h1 => ?_⟩
  rw [if_neg (by rw [h1]; decide)]
  refine ⟨fun h2 => by rw [if_pos (by omega)], fun h2 => ⟨⟨by decide, by omega⟩, fun h3 => ⟨⟨by decide, by omega⟩, ⟨by decide, by omega⟩, ?_⟩, fun h3 => ?_⟩⟩
  . rw [if_neg (by omega), if_pos (by omega)]
  rw [if_neg (by omega), if_neg (by omega)]
  refine ⟨fun g1 g2 => ⟨⟨g1, g2⟩, by decide, by omega⟩, fun g1 g2 => ⟨g1, g2⟩, fun g1 g2 => ⟨g1, g2⟩, fun g1 => ⟨g1, fun g2 => ⟨g1, g2⟩⟩, fun h4 => by rw [if_pos (by omega)], fun h4 => ?_⟩
  have h4' : ¬ (b.getD 1 0 = 128 ∨ 131 < b.getD 1 0 ∨ (2 < b.length ∧ b.getD 2 0 = 0)) := by
    simp only [Bool.or_eq_false_iff, Bool.and_eq_false_iff, decide_eq_false_iff_not] at h4
    omega
  rw [if_neg h4']
  refine ⟨fun h5 => by rw [if_pos h5], fun h5 => ⟨⟨by decide, by omega, by omega⟩, ?_⟩⟩
  rw [if_neg h5]
  have hsl : (b.take (2 + (b.getD 1 0 - 128)).toNat).drop 2 = (b.drop 2).take (b.getD 1 0 - 128).toNat := by
    rw [List.drop_take]
    congr 1
    omega
  rw [hsl]
  have hbl : Bys ((b.drop 2).take (b.getD 1 0 - 128).toNat) := bys_take (bys_drop hb 2) _
  have hll : ((b.drop 2).take (b.getD 1 0 - 128).toNat).length ≤ 3 := by rw [List.length_take]; omega
  generalize (b.drop 2).take (b.getD 1 0 - 128).toNat = l at hbl hll
  refine ⟨fun y _ => 0 ≤ y.1 ∧ y.1 ≤ l.length ∧ y.2.1 = numB (l.take y.1.toNat), fun y _ => ((l.length : Int) - y.1).toNat, ⟨Int.le_refl 0, by simp only; omega, rfl⟩, ?_⟩
  rintro ⟨i, n, _⟩ _ _ ⟨i0, i1, en⟩
  simp only at i0 i1 en ⊢
  refine ⟨fun hlt => ⟨⟨i0, hlt⟩, by decide, ?_⟩, fun hge => ?_⟩
  . have hnb := num_bound hbl (j := i.toNat) (by omega)
    rw [← en] at hnb
    rw [wrapK (i + 1) (by omega) (by omega), or8 (bys_get hbl _) hnb]
    refine ⟨⟨by omega, by omega, ?_⟩, by omega⟩
    rw [show (i + 1).toNat = i.toNat + 1 by omega, take_snoc l _ (by omega), num_snoc, en]
  . rw [List.take_of_length_le (by omega)] at en
    rw [en]
    exact ⟨fun h6 => by rw [if_pos h6], fun h6 => ⟨⟨by decide, by omega⟩, by rw [if_neg h6]⟩⟩
theorem h110 : c_der_head.ok Try.prog GL 110 := con_ok (H := {}) (mkEnv_ok (gl := GL) (l := [(103, conSem c_der_isTag)]) (q := []) (d := []) _ tyOk (by kernel_rfl) ⟨h103.call, trivial⟩ trivial trivial) (by kernel_rfl) (by kernel_rfl) (Eq.mp e110 k110)
def t85 : Prop :=
  ∀ (x : q1), (q27 x) -> lenB x.1 <= q26 -> q62 <= q64 /\ lenB x.1 <= q26 /\ (∀ (y : Int × Int × Int × Int × Unit), (wiZ y.1 /\ wiZ y.2.1 /\ wiZ y.2.2.1 /\ wiZ y.2.2.2.1 /\ True) -> (y.1,
  y.2.1, y.2.2.1, y.2.2.2.1) = headK x.1 -> (decide (q178 y) = true -> True) /\ (decide (q178 y) = true -> (decide (q178 y) == true) = true /\ True) /\ (decide (q178 y) = true -> True) /\
  (q63 y) /\ (decide (q178 y) = true -> True) /\ (q63 y) /\ (decide (q178 y) = true -> (decide (q178 y) == true) = true) /\ ((bif decide (q178 y) then decide (wrZ ((lnZ x.1) - y.2.1) <
  y.2.2.1) else false) = true -> (decide (q61 ≠ q21) = true -> ((q21, []), q21, q61) = takeD x.1) /\ (decide (q61 ≠ q21) = false -> (q21 <= y.2.1 /\ y.2.1 <= wrZ (y.2.1 + y.2.2.1) /\ wrZ
  (y.2.1 + y.2.2.1) <= (lnZ x.1)) /\ lenB (List.drop (Int.toNat y.2.1) (List.take (Int.toNat (wrZ (y.2.1 + y.2.2.1))) x.1)) <= q26 /\ (∀ (y_1 : q1), (q27 y_1) -> y_1.1 = List.drop (Int.toNat
  y.2.1) (List.take (Int.toNat (wrZ (y.2.1 + y.2.2.1))) x.1) -> ((y.1, y_1.1), wrZ (y.2.1 + y.2.2.1), q21) = takeD x.1) /\ True)) /\ ((bif decide (q178 y) then decide (wrZ ((lnZ x.1) - y.2.1)
  < y.2.2.1) else false) = false -> (decide (y.2.2.2.1 ≠ q21) = true -> ((q21, []), q21, y.2.2.2.1) = takeD x.1) /\ (decide (y.2.2.2.1 ≠ q21) = false -> (q21 <= y.2.1 /\ y.2.1 <= wrZ (y.2.1 +
  y.2.2.1) /\ wrZ (y.2.1 + y.2.2.1) <= (lnZ x.1)) /\ lenB (List.drop (Int.toNat y.2.1) (List.take (Int.toNat (wrZ (y.2.1 + y.2.2.1))) x.1)) <= q26 /\ (∀ (y_1 : q1), (q27 y_1) -> y_1.1 =
  List.drop (Int.toNat y.2.1) (List.take (Int.toNat (wrZ (y.2.1 + y.2.2.1))) x.1) -> ((y.1, y_1.1), wrZ (y.2.1 + y.2.2.1), q21) = takeD x.1) /\ True))) /\ True
theorem e85 : t85 = Con.vc c_der_Take GL (mkEnv ty [(110, conSem c_der_head), (40, conSem c_slices_Clone_byte_byte)] [] [] [0, 2, 3, 4, 5, 6, 7, 8, 25, 27]) {} Try.f85.ntmps Try.f85.results.toList (bodyOf Try.f85) := by kernel_rfl
theorem k85 : t85 := by
  unfold t85
  delta q1 q27 q26 q62 q64 wiZ q178 q63 wrZ lnZ q61 q21 wyZ
  rintro ⟨b, _⟩ hx hp
  have hp : b.length ≤ 1000000000 := hp
  have hb : Bys b := sl_bys hx.1
  try dsimp +instances only [dft_int, dft_sl, dft_str]
  simp only [true_and, and_true, eq_self_iff_true, implies_true, reduceCtorEq, false_implies, true_implies, decide_eq_true_eq, decide_eq_false_iff_not, beq_self_eq_true, Bool.not_eq_true', ne_eq, Decidable.not_not, List.nil_append, List.length_singleton, List.length_cons, List.length_nil, Nat.zero_add, Nat.add_zero, Nat.mul_one, and_self, beq_iff_eq, Bool.not_true, Bool.not_false, Bool.not_eq_false', Bool.cond_false_right, Bool.and_eq_true, imp_self, Bool.not_eq_true, Bool.cond_true_left, Bool.or_eq_true]
  refine ⟨by decide, hp, ?_⟩
  rintro ⟨t, f, n, e, _⟩ _ eh
  simp only at eh ⊢
  have k1 : (headK b).1 = t := by rw [← eh]
  have k2 : (headK b).2.1 = f := by rw [← eh]
  have k3 : (headK b).2.2.1 = n := by rw [← eh]
  have k4 : (headK b).2.2.2 = e := by rw [← eh]
  have hT : takeD b = if e ≠ 0 then ((0, []), 0, e) else if (b.length : Int) - f < n then ((0, []), 0, 10) else ((t, (b.drop f.toNat).take n.toNat), f + n, 0) := by rw [takeD, k1, k2, k3, k4]
  have hok : e = 0 → 2 ≤ f ∧ f ≤ 5 ∧ f ≤ b.length ∧ 0 ≤ n ∧ n ≤ 16777215 := fun h => by
    have := head_ok hb (by rw [k4]; exact h)
    rw [k2, k3] at this
    exact ⟨this.1, this.2.1, this.2.2.1, this.2.2.2.1, this.2.2.2.2.1⟩
  refine ⟨fun h => ⟨fun _ => ?_, fun h10 => by cases h10⟩, fun h => ⟨fun he => by rw [hT, if_pos he], fun he => ?_⟩⟩
  . obtain ⟨h1, h2⟩ := h
    have := hok h1
    rw [wrapK _ (by omega) (by omega)] at h2
    rw [hT, if_neg (by omega), if_pos h2]
  . have hk := hok he
    simp only [Bool.and_eq_false_iff, decide_eq_false_iff_not] at h
    have h := h.resolve_left (fun h => h he)
    rw [wrapK _ (by omega) (by omega)] at h
    rw [wrapK (f + n) (by omega) (by omega)]
    refine ⟨⟨by omega, by omega, by omega⟩, by rw [lenB, List.length_drop, List.length_take]; omega, ?_⟩
    rintro ⟨c, _⟩ _ ec
    simp only at ec ⊢
    rw [hT, if_neg (by omega), if_neg h, ec, List.drop_take, show (f + n).toNat - f.toNat = n.toNat by omega]
theorem h85 : c_der_Take.ok Try.prog GL 85 := con_ok (H := {}) (mkEnv_ok (gl := GL) (l := [(110, conSem c_der_head), (40, conSem c_slices_Clone_byte_byte)]) (q := []) (d := []) _ tyOk (by kernel_rfl) ⟨h110.call, h40.call, trivial⟩ trivial trivial) (by kernel_rfl) (by kernel_rfl) (Eq.mp e85 k85)
def t96 : Prop :=
  ∀ (x : q1), (q27 x) -> lenB x.1 <= q26 -> q62 <= q64 /\ lenB x.1 <= q26 /\ (∀ (y : q8), (q65 y) -> (y.1, y.2.1, y.2.2.1) = takeD x.1 -> q62 <= q64 /\ (decide (y.2.2.1 = q21) = true -> True)
  /\ (decide (y.2.2.1 = q21) = true -> True) /\ (decide (y.2.2.1 = q21) = true -> (decide (y.2.2.1 = q21) == true) = true /\ True) /\ (decide (y.2.2.1 = q21) = true -> (decide (y.2.2.1 = q21)
  == true) = true /\ (decide (y.2.2.1 = q21) == true) = true /\ True) /\ (decide (y.2.2.1 = q21) = true -> (decide (y.2.2.1 = q21) == true) = true) /\ ((bif decide (y.2.2.1 = q21) then decide
  (y.2.1 < (lnZ x.1)) else false) = true -> ((q21, []), (13 : Int)) = oneD x.1) /\ ((bif decide (y.2.2.1 = q21) then decide (y.2.1 < (lnZ x.1)) else false) = false -> ((y.1.1, y.1.2),
  y.2.2.1) = oneD x.1)) /\ True
theorem e96 : t96 = Con.vc c_der_One GL (mkEnv ty [(85, conSem c_der_Take)] [] [] [0, 2, 3, 4, 5, 6, 20]) {} Try.f96.ntmps Try.f96.results.toList (bodyOf Try.f96) := by kernel_rfl
theorem k96 : t96 := by
  unfold t96
  delta q1 q27 q26 q62 q64 q8 q65 q21 lnZ wyZ q183 wiZ q221
  rintro ⟨b, _⟩ hx hp
  have hp : b.length ≤ 1000000000 := hp
  try dsimp +instances only [dft_int, dft_sl, dft_str]
  simp only [true_and, and_true, eq_self_iff_true, implies_true, reduceCtorEq, false_implies, true_implies, decide_eq_true_eq, decide_eq_false_iff_not, beq_self_eq_true, Bool.not_eq_true', ne_eq, Decidable.not_not, List.nil_append, List.length_singleton, List.length_cons, List.length_nil, Nat.zero_add, Nat.add_zero, Nat.mul_one, and_self, beq_iff_eq, Bool.not_true, Bool.not_false, Bool.not_eq_false', Bool.cond_false_right, Bool.and_eq_true, imp_self, Bool.not_eq_true, Bool.cond_true_left, Bool.or_eq_true]
  refine ⟨by decide, hp, ?_⟩
  rintro ⟨⟨t, c⟩, n, e, _⟩ _ eT
  simp only at eT ⊢
  refine ⟨by decide, fun h => ?_, fun h => ?_⟩
  . rw [oneD, ← eT, if_pos h]
  . rw [oneD, ← eT, if_neg (fun hh => by simp only [Bool.and_eq_false_iff, decide_eq_false_iff_not] at h; exact h.elim (fun h => h hh.1) (fun h => h hh.2))]
theorem h96 : c_der_One.ok Try.prog GL 96 := con_ok (H := {}) (mkEnv_ok (gl := GL) (l := [(85, conSem c_der_Take)]) (q := []) (d := []) _ tyOk (by kernel_rfl) ⟨h85.call, trivial⟩ trivial trivial) (by kernel_rfl) (by kernel_rfl) (Eq.mp e96 k96)
def t84 : Prop :=
  ∀ (x : q0), (q17 x) -> True -> (decide (x.1 < q179) = false -> True) /\ (decide (x.1 < q179) = false -> (decide (x.1 < q179) == false) = true /\ True) /\ (decide (x.1 < q179) = false ->
  (decide (x.1 < q179) == false) = true) /\ ((bif decide (x.1 < q179) then true else decide ((16777215 : Int) < x.1)) = true -> q21 = sizeD x.1) /\ ((bif decide (x.1 < q179) then true else
  decide ((16777215 : Int) < x.1)) = false -> (q21 <= x.1 /\ x.1 <= (16777215 : Int)) /\ (∀ (y : q1), (q27 y) -> y.1 = lngD x.1 -> wrZ (q37 + (lnZ y.1)) = sizeD x.1) /\ True)
theorem e84 : t84 = Con.vc c_der_Size GL (mkEnv ty [(105, conSem c_der_length)] [] [] [0, 2, 8]) {} Try.f84.ntmps Try.f84.results.toList (bodyOf Try.f84) := by kernel_rfl
theorem k84 : t84 := by
  unfold t84
  delta q0 q17 q179 q21 q1 q27 wrZ q37 lnZ wiZ wyZ
  rintro ⟨n, _⟩ hx hp
  try dsimp +instances only [dft_int, dft_sl, dft_str]
  simp only [true_and, and_true, eq_self_iff_true, implies_true, reduceCtorEq, false_implies, true_implies, decide_eq_true_eq, decide_eq_false_iff_not, beq_self_eq_true, Bool.not_eq_true', ne_eq, Decidable.not_not, List.nil_append, List.length_singleton, List.length_cons, List.length_nil, Nat.zero_add, Nat.add_zero, Nat.mul_one, and_self, beq_iff_eq, Bool.not_true, Bool.not_false, Bool.not_eq_false', Bool.cond_false_right, Bool.and_eq_true, imp_self, Bool.not_eq_true, Bool.cond_true_left, Bool.or_eq_true]
  refine ⟨fun h => by rw [sizeD, if_pos h], fun h => ?_⟩
  simp only [Bool.or_eq_false_iff, decide_eq_false_iff_not] at h
  refine ⟨⟨by omega, by omega⟩, ?_⟩
  rintro ⟨l, _⟩ _ el
  simp only at el ⊢
  have := lng_len (n := n)
  rw [el, wrapK _ (by omega) (by omega), size_of (by omega) (by omega)]
theorem h84 : c_der_Size.ok Try.prog GL 84 := con_ok (H := {}) (mkEnv_ok (gl := GL) (l := [(105, conSem c_der_length)]) (q := []) (d := []) _ tyOk (by kernel_rfl) ⟨h105.call, trivial⟩ trivial trivial) (by kernel_rfl) (by kernel_rfl) (Eq.mp e84 k84)
noncomputable def i109 : CallSem → CallSem := vcSeq (mkEnv ty [(85, conSem c_der_Take)] [] [] [0, 1, 3, 4, 5, 6, 10, 27]) {} Try.f109.ntmps Try.f109.results.toList (bodyOf Try.f109)
theorem i109_ok : SeqOk Try.prog GL 109 i109 := seq_ok {} (mkEnv_ok (gl := GL) (l := [(85, conSem c_der_Take)]) (q := []) (d := []) _ tyOk (by kernel_rfl) ⟨h85.call, trivial⟩ trivial trivial) (by kernel_rfl) (by kernel_rfl)
noncomputable def i83 : CallSem := vcFn (mkEnv ty [(40, conSem c_slices_Clone_byte_byte)] [] [] [0, 2, 3]) {} Try.f83.ntmps Try.f83.results.toList (bodyOf Try.f83)
theorem i83_ok : CallOk Try.prog GL 83 i83 := inl_ok {} (mkEnv_ok (gl := GL) (l := [(40, conSem c_slices_Clone_byte_byte)]) (q := []) (d := []) _ tyOk (by kernel_rfl) ⟨h40.call, trivial⟩ trivial trivial) (by kernel_rfl) (by kernel_rfl)
def t45 : Prop :=
  ∀ (x : q1), (q27 x) -> lenB x.1 <= q26 -> q29 <= q64 /\ q29 <= q64 /\ lenB x.1 <= q26 /\ (∀ (y : q1), (q27 y) -> y.1 = x.1 -> q29 <= q64 /\ ∃ (I : Int × Unit -> Unit × (Int × Unit) × (List
  Int × Unit) × List q69 × Unit -> Prop), ∃ (μ : Int × Unit -> Unit × (Int × Unit) × (List Int × Unit) × List q69 × Unit -> Nat), (q21 = q21 /\ q21 = q21 /\ Value.slice none q28 q28 =
  Value.slice none q28 q28 /\ x.1 = x.1 /\ I (q21, ()) ((), (q21, ()), (y.1, ()), [], ())) /\ ∀ (y : q0) (z : Unit × (Int × Unit) × (List Int × Unit) × List q69 × Unit), (q17 y) -> True /\
  (wiZ z.2.1.1 /\ True) /\ (wyZ z.2.2.1.1 /\ True) /\ (Kd.wf q68 z.2.2.2.1 /\ True) -> I y z -> (decide (y.1 < (lnZ z.2.2.1.1)) = true -> (q21 <= y.1 /\ y.1 <= (lnZ z.2.2.1.1)) /\ lenB
  (List.drop (Int.toNat y.1) z.2.2.1.1) <= q26 /\ (∀ (y_1 : q8), (q65 y_1) -> (y_1.1, y_1.2.1, y_1.2.2.1) = takeD (List.drop (Int.toNat y.1) z.2.2.1.1) -> q62 <= q64 /\ (decide (y_1.2.2.1 ≠
  q21) = false -> True) /\ (decide (y_1.2.2.1 ≠ q21) = false -> True) /\ (decide (y_1.2.2.1 ≠ q21) = false -> True) /\ (decide (y_1.2.2.1 ≠ q21) = false -> (decide (y_1.2.2.1 ≠ q21) == false)
  = true /\ (decide (y_1.2.2.1 ≠ q21) == false) = true /\ (decide (y_1.2.2.1 ≠ q21) == false) = true /\ q62 <= q64 /\ q28 < q62 /\ (List.length z.2.2.2.1 + List.length [(y_1.1.1, y_1.1.2)]) *
  (32 : Nat) <= q25 /\ List.length z.2.2.2.1 + List.length [(y_1.1.1, y_1.1.2)] <= q24 /\ (((True /\ (∀ (y_2 : q0), (q17 y_2) -> y_2.1 = sizeD (lnZ y_1.1.2) -> (((((q21 = q21 /\ q21 = q21 /\
  Value.slice none q28 q28 = Value.slice none q28 q28 /\ x.1 = x.1 /\ I (wrZ (y.1 + y_1.2.1), ()) ((), (wrZ (q181 y y_2 y_1), ()), (z.2.2.1.1, ()), z.2.2.2.1 ++ [(y_1.1.1, y_1.1.2)], ()) /\ μ
  (wrZ (y.1 + y_1.2.1), ()) ((), (wrZ (q181 y y_2 y_1), ()), (z.2.2.1.1, ()), z.2.2.2.1 ++ [(y_1.1.1, y_1.1.2)], ()) < μ y z) /\ True) /\ True) /\ True) /\ True) /\ (((((q21 = q21 /\ q21 =
  q21 /\ Value.slice none q28 q28 = Value.slice none q28 q28 /\ x.1 = x.1 /\ I (wrZ (y.1 + y_1.2.1), ()) ((), (wrZ (q181 y y_2 y_1), ()), (z.2.2.1.1, ()), z.2.2.2.1 ++ [(y_1.1.1, y_1.1.2)],
  ()) /\ μ (wrZ (y.1 + y_1.2.1), ()) ((), (wrZ (q181 y y_2 y_1), ()), (z.2.2.1.1, ()), z.2.2.2.1 ++ [(y_1.1.1, y_1.1.2)], ()) < μ y z) /\ True) /\ True) /\ True) /\ ((((q21 = q21 /\ q21 = q21
  /\ Value.slice none q28 q28 = Value.slice none q28 q28 /\ x.1 = x.1 /\ I (wrZ (y.1 + y_1.2.1), ()) ((), (wrZ (q181 y y_2 y_1), ()), (z.2.2.1.1, ()), z.2.2.2.1 ++ [(y_1.1.1, y_1.1.2)], ())
  /\ μ (wrZ (y.1 + y_1.2.1), ()) ((), (wrZ (q181 y y_2 y_1), ()), (z.2.2.1.1, ()), z.2.2.2.1 ++ [(y_1.1.1, y_1.1.2)], ()) < μ y z) /\ True) /\ True) /\ True) /\ True) /\ True) /\ True) /\
  ((True /\ (∀ (y_2 : q0), (wiZ y_2.1 /\ True) -> y_2.1 = sizeD (lnZ y_1.1.2) -> ((((q179 = q179 /\ q179 = q179 /\ Value.slice none q182 q182 = Value.slice none q182 q182 /\ x.1 = x.1 /\ I
  (wrZ (y.1 + y_1.2.1), ()) ((), (wrZ (q181 y y_2 y_1), ()), (z.2.2.1.1, ()), z.2.2.2.1 ++ [(y_1.1.1, y_1.1.2)], ()) /\ μ (wrZ (y.1 + y_1.2.1), ()) ((), (wrZ (q181 y y_2 y_1), ()),
  (z.2.2.1.1, ()), z.2.2.2.1 ++ [(y_1.1.1, y_1.1.2)], ()) < μ y z) /\ True) /\ True) /\ True) /\ ((((q179 = q179 /\ q179 = q179 /\ Value.slice none q182 q182 = Value.slice none q182 q182 /\
  x.1 = x.1 /\ I (wrZ (y.1 + y_1.2.1), ()) ((), (wrZ (q181 y y_2 y_1), ()), (z.2.2.1.1, ()), z.2.2.2.1 ++ [(y_1.1.1, y_1.1.2)], ()) /\ μ (wrZ (y.1 + y_1.2.1), ()) ((), (wrZ (q181 y y_2 y_1),
  ()), (z.2.2.1.1, ()), z.2.2.2.1 ++ [(y_1.1.1, y_1.1.2)], ()) < μ y z) /\ True) /\ True) /\ True) /\ True) /\ True) /\ (q180 y_1 x I y z μ) /\ True) /\ True) /\ (q66 y_1 x I y z μ) /\ True)
  /\ ((q66 y_1 x I y z μ) /\ (((q180 y_1 x I y z μ) /\ True) /\ True) /\ True) /\ True) /\ (decide (y_1.2.2.1 ≠ q21) = !false -> (decide (z.2.1.1 = (lnZ x.1)) = true -> (z.2.2.2.1, z.2.1.1,
  q21) = allD x.1) /\ (q67 z x))) /\ True) /\ (decide (y.1 < (lnZ z.2.2.1.1)) = false -> (decide (z.2.1.1 = (lnZ x.1)) = true -> (z.2.2.2.1, z.2.1.1, q21) = allD x.1) /\ (q67 z x))) /\ True
theorem e45 : t45 = Con.vc c_der_All GL (mkEnv ty [(83, i83), (85, conSem c_der_Take), (84, conSem c_der_Size)] [(109, i109)] [] [0, 2, 3, 4, 5, 6, 7, 8, 11, 13, 14, 15, 33]) {} Try.f45.ntmps Try.f45.results.toList (bodyOf Try.f45) := by kernel_rfl
theorem k45 : t45 := by
  unfold t45
  delta q1 q27 q26 q29 q64 q69 q21 q28 q0 q17 wiZ wyZ q68 lnZ q8 q65 q62 q25 q24 wrZ q181 q179 q182 q180 q66 q67 q183 q200 q221
  rintro ⟨b, _⟩ hx hp
  have hp : b.length ≤ 1000000000 := hp
  have hb : Bys b := sl_bys hx.1
  try dsimp +instances only [dft_int, dft_sl, dft_str]
  simp only [true_and, and_true, eq_self_iff_true, implies_true, reduceCtorEq, false_implies, true_implies, decide_eq_true_eq, decide_eq_false_iff_not, beq_self_eq_true, Bool.not_eq_true', ne_eq, Decidable.not_not, List.nil_append, List.length_singleton, List.length_cons, List.length_nil, Nat.zero_add, Nat.add_zero, Nat.mul_one, and_self, beq_iff_eq, Bool.not_true, Bool.not_false, Bool.not_eq_false', Bool.cond_false_right, Bool.and_eq_true, imp_self, Bool.not_eq_true, Bool.cond_true_left, Bool.or_eq_true]
  refine ⟨by decide, by decide, hp, ?_⟩
  rintro ⟨b1, _⟩ _ eb
  have eb : b1 = b := eb
  subst eb
  refine ⟨by decide, fun y z => z.2.2.1.1 = b1 ∧ 0 ≤ y.1 ∧ y.1 ≤ b1.length ∧ z.2.1.1 = y.1 ∧ (z.2.2.2.1 : List EltT).length ≤ y.1 ∧ ∃ (k : Nat) (pre : List (Int × EltT)), (b1.length : Int) - y.1 ≤ k ∧ rowD b1 = (pre ++ (rowR b1 k y.1).1, (rowR b1 k y.1).2) ∧ z.2.2.2.1 = pre.map (·.2), fun y _ => ((b1.length : Int) - y.1).toNat, ⟨rfl, Int.le_refl 0, by simp only; omega, rfl, by simp, b1.length, [], by simp only; omega, rfl, rfl⟩, ?_⟩
  rintro ⟨i, _⟩ ⟨_, ⟨en, _⟩, ⟨own, _⟩, out, _⟩ _ _ ⟨eo, i0, i1, ee, hl, k, pre, hk, hr, eout⟩
  simp only at eo i0 i1 ee hl hk hr eout ⊢
  subst eo ee
  refine ⟨fun hlt => ⟨⟨i0, by omega⟩, by rw [lenB, List.length_drop]; omega, ?_⟩, fun hge => ⟨fun h => ?_, fun h => absurd (by omega) h⟩⟩
  . rintro ⟨x, n, e, _⟩ _ eT
    simp only at eT ⊢
    obtain ⟨m, rfl⟩ : ∃ m, k = m + 1 := ⟨k - 1, by omega⟩
    have hbd : Bys (own.drop en.toNat) := bys_drop hb _
    refine ⟨by decide, fun he => ?_, fun he => ⟨fun h => by omega, fun h => ⟨⟨i0, i1⟩, by rw [lenB, List.length_drop]; omega, ?_⟩⟩⟩
    . subst he
      have ok : (takeD (own.drop en.toNat)).2.2 = 0 := by rw [← eT]
      have h1 := take_inv hbd ok
      have h2 := take_ok hbd ok
      rw [row_step own m en hlt ok] at hr
      rw [← eT] at h1 h2 hr
      simp only at h1 h2 hr
      rw [List.length_drop] at h2
      have hpl := put_len x
      have hll := lng_len (n := (x.2.length : Int))
      refine ⟨by trivial, by trivial, by trivial, by decide, by decide, by omega, by omega, ?_⟩
      rintro ⟨z, _⟩ _ ez
      simp only at ez ⊢
      rw [size_of (by omega) (by omega)] at ez
      rw [wrapK (en + n) (by omega) (by omega), wrapK (en + z) (by omega) (by omega), wrapK (en + z + (x.2.length : Int)) (by omega) (by omega)]
      refine ⟨⟨by trivial, by omega, by omega, by omega, by rw [List.length_append, List.length_singleton]; omega, m, pre ++ [(en, x)], by omega, ?_, ?_⟩, by omega⟩
      . rw [hr]; simp
      . rw [eout]; simp
    . rintro ⟨x2, n2, e2, _⟩ _ eT2
      simp only at eT2 ⊢
      have he2 : e2 = e := by
        have := eT.trans eT2.symm
        simp only [Prod.mk.injEq] at this
        exact this.2.2.symm
      have bad : (takeD (own.drop en.toNat)).2.2 ≠ 0 := by rw [← eT]; exact he
      rw [row_bad own m en hlt bad, ← eT] at hr
      refine ⟨by decide, ?_⟩
      rw [allD, hr, he2]
      simp only
      rw [if_pos he]
  . rw [row_end own k en hge] at hr
    rw [allD, hr]
    simp only
    rw [if_neg (by simp), List.append_nil, eout]
theorem h45 : c_der_All.ok Try.prog GL 45 := con_ok (H := {}) (mkEnv_ok (gl := GL) (l := [(83, i83), (85, conSem c_der_Take), (84, conSem c_der_Size)]) (q := [(109, i109)]) (d := []) _ tyOk (by kernel_rfl) ⟨i83_ok, h85.call, h84.call, trivial⟩ ⟨i109_ok, trivial⟩ trivial) (by kernel_rfl) (by kernel_rfl) (Eq.mp e45 k45)
end Go.Proofs.Ytiofbnlbfmbodaa
end
section
namespace Go.Proofs.Ytiofbnlbfmbodaa
open Go Go.Vc Go.Pl Go.Proofs
def c_r01_IsTag : Con := { args := [.dat I64], res := [.dat .bool], pre := fun _ => True, post := fun x y => y.1 = isTagD x.1 }
def c_r01_Length : Con := { args := [.dat I64], res := [.own 5 U8], pre := fun x => 0 ≤ x.1 ∧ x.1 ≤ 16777215, post := fun x y => y.1 = lngD x.1 }
def c_r01_Bytes : Con := { args := [.dat ET], res := [.own 5 U8], pre := fun x => lenB x.1.2 ≤ 16777215 ∧ 0 ≤ x.1.1 ∧ x.1.1 ≤ 255, post := fun x y => y.1 = putB x.1 }
def c_r01_Take : Con := { args := [.dat BY], res := [.dat ET, .dat I64, .dat I64], pre := fun x => lenB x.1 ≤ 1000000000, post := fun x y => (y.1, y.2.1, y.2.2.1) = takeD x.1 }
end Go.Proofs.Ytiofbnlbfmbodaa
end
section
namespace Go.Proofs.Ytiofbnlbfmbodaa
open Go Go.Vc Go.Pl Go.Proofs
set_option linter.unusedVariables false
set_option linter.unusedSimpArgs false
set_option maxRecDepth 20000
abbrev q70 (p0 : q0) := ((bif decide (q175 p0) then decide (p0.1 < (256 : Int)) else false) == true)
abbrev q71 (p0 : q0) := (bif decide (q175 p0) then decide (p0.1 < (256 : Int)) else false)
abbrev q72 := (16777215 : Nat)
abbrev q226 (p0 : Int × Int × Int × Int × Unit) (p1 : q1) := (List.drop (Int.toNat p0.1) (List.take (Int.toNat (wrZ (p0.1 + p0.2.1))) p1.1))
abbrev q225 (p0 : q1) (p1 : Int × Int × Int × Int × Unit) := (((wrZ (List.getD p0.1 (0 : Nat) (Kd.dft (Kd.int IntKind.u8))), [] ++ List.drop (Int.toNat p1.1) (List.take (Int.toNat (wrZ
  (p1.1 + p1.2.1))) p0.1)), wrZ (p1.1 + p1.2.1), (0 : Int)) = takeD p0.1 /\ True)
abbrev q201 (p0 : Int × Int × Int × Int × Unit) (p1 : q1) := ((0 : Nat) < (1 : Nat) /\ ((0 : Nat) + List.length (q226 p0 p1)) * (1 : Nat) <= (140737488355328 : Nat) /\ (0 : Nat) +
  List.length (q226 p0 p1) <= (9223372036854775807 : Nat) /\ (q225 p1 p0) /\ True)
abbrev q73 (p0 : Int × Int × Int × Int × Unit) (p1 : q1) := (((q179 <= p0.1 /\ p0.1 <= wrZ (p0.1 + p0.2.1) /\ wrZ (p0.1 + p0.2.1) <= (lnZ p1.1)) /\ (q201 p0 p1) /\ True) /\ True)
abbrev q74 (p0 : Int × Int × Int × Int × Unit) (p1 : q1) := ((q201 p0 p1) /\ True)
abbrev q75 (p0 : Int × Int × Int × Int × Unit) (p1 : q1) := (q182 < (1 : Nat) /\ ((0 : Nat) + List.length (q226 p0 p1)) * (1 : Nat) <= (140737488355328 : Nat) /\ q182 + List.length (q226 p0
  p1) <= (9223372036854775807 : Nat) /\ ((q225 p1 p0) /\ True) /\ True)
abbrev q76 (p0 : q1) := (bif decide (wrZ (q199 p0) = (128 : Int)) then true else decide ((131 : Int) < wrZ (q199 p0)))
abbrev q77 (p0 : q1) := (bif decide ((2 : Int) < (lnZ p0.1)) then decide (List.getD p0.1 (2 : Nat) q194 = q179) else false)
abbrev q78 (p0 : Int × Int × Int × Int × Unit) (p1 : q1) := (q179 <= p0.1 /\ p0.1 <= wrZ (p0.1 + p0.2.1) /\ wrZ (p0.1 + p0.2.1) <= (lnZ p1.1))
abbrev q79 (p0 : q1) := (wrZ (q199 p0) = (128 : Int))
abbrev q80 := (Kd.dft q221)
def t99 : Prop :=
  ∀ (x : q0), (q17 x) -> True -> (decide (q175 x) = true -> True) /\ (q15 x) /\ (q16 x) /\ ((q71 x) = true -> True) /\ ((q71 x) = true -> (q70 x) = true /\ (32 : Int) ≠ q21 /\ True) /\ ((q71
  x) = true -> (q70 x) = true /\ True) /\ ((q71 x) = true -> (q70 x) = true) /\ (bif bif decide (q175 x) then decide (x.1 < q20) else false then decide (Int.tmod x.1 (32 : Int) ≠ (31 : Int))
  else false) = isTagD x.1
theorem e99 : t99 = Con.vc c_r01_IsTag GL (mkEnv ty [] [] [] [0, 2]) {} Try.f99.ntmps Try.f99.results.toList (bodyOf Try.f99) := by kernel_rfl
theorem k99 : t99 := by
  unfold t99
  delta q0 q17 q175 q15 q16 q71 q70 q21 q20 wiZ
  rintro ⟨t, _⟩ hx hp
  try dsimp +instances only [dft_int, dft_sl, dft_str]
  simp only [true_and, and_true, eq_self_iff_true, implies_true, reduceCtorEq, false_implies, true_implies, decide_eq_true_eq, decide_eq_false_iff_not, beq_self_eq_true, Bool.not_eq_true', ne_eq, Decidable.not_not, List.nil_append, List.length_singleton, List.length_cons, List.length_nil, Nat.zero_add, Nat.add_zero, Nat.mul_one, and_self, beq_iff_eq, Bool.not_true, Bool.not_false, Bool.not_eq_false', Bool.cond_false_right, Bool.and_eq_true, imp_self, Bool.not_eq_true, Bool.cond_true_left, Bool.or_eq_true]
  exact ⟨fun h => ⟨h, by decide⟩, isTag_ref t⟩
theorem h99 : c_r01_IsTag.ok Try.prog GL 99 := con_ok (H := {}) (mkEnv_ok (gl := GL) (l := []) (q := []) (d := []) _ tyOk (by kernel_rfl) trivial trivial trivial) (by kernel_rfl) (by kernel_rfl) (Eq.mp e99 k99)
def t108 : Prop :=
  ∀ (x : q0), (q17 x) -> q21 <= x.1 /\ x.1 <= (16777215 : Int) -> (decide (x.1 < q19) = true -> [IntKind.wrap IntKind.u8 x.1] = lngD x.1) /\ (decide (x.1 < q19) = false -> ∃ (I : q5), ∃ (μ :
  q6), (Value.bool false = Value.bool false /\ Value.slice none q28 q28 = Value.slice none q28 q28 /\ I (x.1, ()) ([], ())) /\ ∀ (y : q0) (z : q1), (q17 y) -> (q27 z) -> I y z -> (decide (q21
  < y.1) = true -> q20 ≠ q21 /\ q28 < q29 /\ (List.length [IntKind.wrap IntKind.u8 (Int.tmod y.1 q20)] + List.length z.1) * q29 <= q25 /\ List.length [IntKind.wrap IntKind.u8 (Int.tmod y.1
  q20)] + List.length z.1 <= q24 /\ q20 ≠ q21 /\ Value.bool false = Value.bool false /\ Value.slice none q28 q28 = Value.slice none q28 q28 /\ I (wrZ (Int.tdiv y.1 q20), ()) ([IntKind.wrap
  IntKind.u8 (Int.tmod y.1 q20)] ++ z.1, ()) /\ μ (wrZ (Int.tdiv y.1 q20), ()) ([IntKind.wrap IntKind.u8 (Int.tmod y.1 q20)] ++ z.1, ()) < μ y z) /\ (decide (q21 < y.1) = false -> q28 < q29
  /\ (List.length [IntKind.wrap IntKind.u8 (wrZ (q19 + (lnZ z.1)))] + List.length z.1) * q29 <= q25 /\ List.length [IntKind.wrap IntKind.u8 (wrZ (q19 + (lnZ z.1)))] + List.length z.1 <= q24
  /\ [IntKind.wrap IntKind.u8 (wrZ (q19 + (lnZ z.1)))] ++ z.1 = lngD x.1))
theorem e108 : t108 = Con.vc c_r01_Length GL (mkEnv ty [] [] [] [0, 2, 3, 5, 10]) {} Try.f108.ntmps Try.f108.results.toList (bodyOf Try.f108) := by kernel_rfl
theorem k108 : t108 := by
  unfold t108
  delta q0 q17 q21 q19 q5 q6 q28 q1 q27 q20 q29 q25 q24 wrZ lnZ wiZ wyZ
  rintro ⟨n, _⟩ hx hp
  obtain ⟨h0, h1⟩ := hp
  simp only at h0 h1
  try dsimp +instances only [dft_int, dft_sl, dft_str]
  simp only [true_and, and_true, eq_self_iff_true, implies_true, reduceCtorEq, false_implies, true_implies, decide_eq_true_eq, decide_eq_false_iff_not, beq_self_eq_true, Bool.not_eq_true', ne_eq, Decidable.not_not, List.nil_append, List.length_singleton, List.length_cons, List.length_nil, Nat.zero_add, Nat.add_zero, Nat.mul_one, and_self, beq_iff_eq, Bool.not_true, Bool.not_false, Bool.not_eq_false', Bool.cond_false_right, Bool.and_eq_true, imp_self, Bool.not_eq_true, Bool.cond_true_left, Bool.or_eq_true]
  refine ⟨fun h => by rw [lngD, if_pos h, wrap_u8m, show n % 256 = n by omega], fun h => ?_⟩
  refine ⟨fun y z => (y.1 = n ∧ z.1 = []) ∨ (y.1 = n / 256 ∧ z.1 = [n % 256]) ∨ (0 < n / 256 ∧ y.1 = n / 65536 ∧ z.1 = [n / 256 % 256, n % 256]) ∨ (0 < n / 65536 ∧ y.1 = 0 ∧ z.1 = [n / 65536, n / 256 % 256, n % 256]), fun y _ => y.1.toNat, .inl ⟨rfl, rfl⟩, ?_⟩
  rintro ⟨m, _⟩ ⟨z, _⟩ _ _ hI
  simp only at hI ⊢
  refine ⟨fun hlt => ?_, fun hge => ?_⟩
  . have hm : IntKind.wrap .i64 (m.tdiv 256) = m / 256 := by
      rw [Int.tdiv_eq_ediv_of_nonneg (by omega), wrapK _ (by omega) (by omega)]
    have hm2 : IntKind.wrap .u8 (m.tmod 256) = m % 256 := by
      rw [Int.tmod_eq_emod_of_nonneg (by omega), wrap_u8m]
      omega
    rw [hm, hm2]
    rcases hI with ⟨rfl, rfl⟩ | ⟨rfl, rfl⟩ | ⟨g, rfl, rfl⟩ | ⟨g, rfl, rfl⟩
    . exact ⟨by decide, by decide, by simp, by simp, by decide, .inr (.inl ⟨rfl, rfl⟩), by omega⟩
    . exact ⟨by decide, by decide, by simp, by simp, by decide, .inr (.inr (.inl ⟨hlt, by omega, rfl⟩)), by omega⟩
    . refine ⟨by decide, by decide, by simp, by simp, by decide, .inr (.inr (.inr ⟨hlt, by omega, ?_⟩)), by omega⟩
      rw [show n / 65536 % 256 = n / 65536 by omega]
      rfl
    . omega
  . rcases hI with ⟨rfl, rfl⟩ | ⟨rfl, rfl⟩ | ⟨g, rfl, rfl⟩ | ⟨g, rfl, rfl⟩
    . omega
    . refine ⟨by decide, by simp, by simp, ?_⟩
      rw [lngD, if_neg h, if_pos (by omega), show n % 256 = n by omega]
      rfl
    . refine ⟨by decide, by simp, by simp, ?_⟩
      rw [lngD, if_neg h, if_neg (by omega), if_pos (by omega), show n / 256 % 256 = n / 256 by omega]
      rfl
    . refine ⟨by decide, by simp, by simp, ?_⟩
      rw [lngD, if_neg h, if_neg (by omega), if_neg (by omega)]
      rfl
theorem h108 : c_r01_Length.ok Try.prog GL 108 := con_ok (H := {}) (mkEnv_ok (gl := GL) (l := []) (q := []) (d := []) _ tyOk (by kernel_rfl) trivial trivial trivial) (by kernel_rfl) (by kernel_rfl) (Eq.mp e108 k108)
def t80 : Prop :=
  ∀ (x : q69 × Unit), (Kd.wf q183 x.1 /\ True) -> lenB x.1.2 <= q72 /\ q21 <= x.1.1 /\ x.1.1 <= q18 -> List.length [SV.dat (Kd.int IntKind.i64) x.1.1, SV.dat q34 x.1.2] <= q64 /\ q28 < q29 /\
  (q28 + List.length [IntKind.wrap IntKind.u8 x.1.1]) * q29 <= q25 /\ q28 + List.length [IntKind.wrap IntKind.u8 x.1.1] <= q24 /\ (q21 <= (lnZ x.1.2) /\ (lnZ x.1.2) <= (16777215 : Int)) /\ (∀
  (y : q1), (q27 y) -> y.1 = lngD (lnZ x.1.2) -> q28 < q29 /\ (List.length ([] ++ [IntKind.wrap IntKind.u8 x.1.1]) + List.length y.1) * q29 <= q25 /\ List.length ([] ++ [IntKind.wrap
  IntKind.u8 x.1.1]) + List.length y.1 <= q24 /\ q28 < q29 /\ (List.length ([] ++ [IntKind.wrap IntKind.u8 x.1.1] ++ y.1) + List.length x.1.2) * q29 <= q25 /\ List.length ([] ++ [IntKind.wrap
  IntKind.u8 x.1.1] ++ y.1) + List.length x.1.2 <= q24 /\ [] ++ [IntKind.wrap IntKind.u8 x.1.1] ++ y.1 ++ x.1.2 = putB x.1) /\ True
theorem e80 : t80 = Con.vc c_r01_Bytes GL (mkEnv ty [(108, conSem c_r01_Length)] [] [] [0, 1, 2, 3]) {} Try.f80.ntmps Try.f80.results.toList (bodyOf Try.f80) := by kernel_rfl
theorem k80 : t80 := by
  unfold t80
  delta q69 q183 q72 q21 q18 q34 q64 q28 q29 q25 q24 lnZ q1 q27 q221 wyZ
  rintro ⟨⟨t, c⟩, _⟩ hx hp
  obtain ⟨h1, h2, h3⟩ := hp
  simp only [lenB] at h1 h2 h3
  try dsimp +instances only [dft_int, dft_sl, dft_str]
  simp only [true_and, and_true, eq_self_iff_true, implies_true, reduceCtorEq, false_implies, true_implies, decide_eq_true_eq, decide_eq_false_iff_not, beq_self_eq_true, Bool.not_eq_true', ne_eq, Decidable.not_not, List.nil_append, List.length_singleton, List.length_cons, List.length_nil, Nat.zero_add, Nat.add_zero, Nat.mul_one, and_self, beq_iff_eq, Bool.not_true, Bool.not_false, Bool.not_eq_false', Bool.cond_false_right, Bool.and_eq_true, imp_self, Bool.not_eq_true, Bool.cond_true_left, Bool.or_eq_true]
  have hll := lng_len (n := (c.length : Int))
  refine ⟨by decide, by decide, by decide, by decide, ⟨by omega, by omega⟩, ?_⟩
  rintro ⟨l, _⟩ _ el
  simp only at el ⊢
  subst el
  refine ⟨by decide, by omega, by omega, by decide, by simp only [List.length_append, List.length_singleton]; omega, by simp only [List.length_append, List.length_singleton]; omega, ?_⟩
  rw [wrap8 t h2 h3, putB]
  simp
theorem h80 : c_r01_Bytes.ok Try.prog GL 80 := con_ok (H := {}) (mkEnv_ok (gl := GL) (l := [(108, conSem c_r01_Length)]) (q := []) (d := []) _ tyOk (by kernel_rfl) ⟨h108.call, trivial⟩ trivial trivial) (by kernel_rfl) (by kernel_rfl) (Eq.mp e80 k80)
def t64 : Prop :=
  ∀ (x : q1), (q27 x) -> lenB x.1 <= q26 -> q62 <= q64 /\ (decide (q59 x) = true -> ((q21, []), q21, q61) = takeD x.1) /\ (decide (q59 x) = false -> (q57 x) /\ True /\ (∀ (y : q7), (wbZ y.1
  /\ True) -> y.1 = isTagD (q54 x) -> ((!y.1) = true -> ((q21, []), q21, (11 : Int)) = takeD x.1) /\ ((!y.1) = false -> (decide ((lnZ x.1) = q37) = true -> ((q21, []), q21, q61) = takeD x.1)
  /\ (decide ((lnZ x.1) = q37) = false -> (q58 x) /\ (decide (q79 x) = false -> True) /\ (decide (q79 x) = false -> (decide (q79 x) == false) = true /\ True) /\ (decide (q79 x) = false ->
  (decide (q79 x) == false) = true) /\ ((q76 x) = true -> ((q21, []), q21, (12 : Int)) = takeD x.1) /\ ((q76 x) = false -> ∃ (J : Int × Int × Int × Int × Unit -> (Int × Unit) × Unit -> Prop),
  ((decide (q19 < wrZ (q56 x)) = true -> (decide (q60 x) = true -> True) /\ (decide (q60 x) = true -> (decide (q60 x) == true) = true /\ (q21 <= q23 /\ q23 < (lnZ x.1)) /\ True) /\ (decide
  (q60 x) = true -> (decide (q60 x) == true) = true /\ True) /\ (decide (q60 x) = true -> (decide (q60 x) == true) = true /\ True) /\ (decide (q60 x) = true -> (decide (q60 x) == true) =
  true) /\ ((q77 x) = true -> ((q21, []), q21, (12 : Int)) = takeD x.1) /\ ((q77 x) = false -> (decide (q50 x) = true -> ((q21, []), q21, q61) = takeD x.1) /\ (decide (q50 x) = false -> ∃ (I
  : Int × Int × Unit -> Unit × Unit -> Prop), ∃ (μ : Int × Int × Unit -> Unit × Unit -> Nat), (Value.bool false = Value.bool false /\ Value.bool false = Value.bool false /\ wrZ (q53 x) = wrZ
  (q53 x) /\ Value.bool true = Value.bool true /\ Value.bool false = Value.bool false /\ q23 = q23 /\ Value.bool false = Value.bool false /\ Value.bool false = Value.bool false /\ Value.bool
  false = Value.bool false /\ q21 = q21 /\ q21 = q21 /\ x.1 = x.1 /\ q21 = q21 /\ Value.slice none q28 q28 = Value.slice none q28 q28 /\ I (q21, q21, ()) ((), ())) /\ ∀ (y : q4) (z : Unit ×
  Unit), (q33 y) -> True /\ True -> I y z -> (decide (y.1 < wrZ (q53 x)) = true -> (q21 <= wrZ (q23 + y.1) /\ wrZ (q23 + y.1) < (lnZ x.1)) /\ Value.bool false = Value.bool false /\ Value.bool
  false = Value.bool false /\ wrZ (q53 x) = wrZ (q53 x) /\ Value.bool true = Value.bool true /\ Value.bool false = Value.bool false /\ q23 = q23 /\ Value.bool false = Value.bool false /\
  Value.bool false = Value.bool false /\ Value.bool false = Value.bool false /\ q21 = q21 /\ q21 = q21 /\ x.1 = x.1 /\ q21 = q21 /\ Value.slice none q28 q28 = Value.slice none q28 q28 /\ I
  (wrZ (q35 y), wrZ (wrZ (q20 * y.2.1) + wrZ (List.getD x.1 (Int.toNat (wrZ (q23 + y.1))) q80)), ()) ((), ()) /\ μ (wrZ (q35 y), wrZ (wrZ (q20 * y.2.1) + wrZ (List.getD x.1 (Int.toNat (wrZ
  (q23 + y.1))) q80)), ()) ((), ()) < μ y z) /\ (decide (y.1 < wrZ (q53 x)) = false -> (decide (y.2.1 < q19) = true -> ((q21, []), q21, (12 : Int)) = takeD x.1) /\ (decide (y.2.1 < q19) =
  false -> Value.bool false = Value.bool false /\ Value.bool false = Value.bool false /\ Value.bool false = Value.bool false /\ Value.bool false = Value.bool false /\ x.1 = x.1 /\ Value.slice
  none q28 q28 = Value.slice none q28 q28 /\ J (wrZ (q52 x), y.2.1, q21, q21, ()) ((q21, ()), ())))))) /\ (decide (q19 < wrZ (q56 x)) = false -> Value.bool false = Value.bool false /\
  Value.bool false = Value.bool false /\ Value.bool false = Value.bool false /\ Value.bool false = Value.bool false /\ x.1 = x.1 /\ Value.slice none q28 q28 = Value.slice none q28 q28 /\ J
  (q23, wrZ (q56 x), q21, q21, ()) ((q21, ()), ()))) /\ ∀ (u : Int × Int × Int × Int × Unit) (z : (Int × Unit) × Unit), (wiZ u.1 /\ wiZ u.2.1 /\ wiZ u.2.2.1 /\ wiZ u.2.2.2.1 /\ True) -> (wiZ
  z.1.1 /\ True) /\ True -> J u z -> (decide (wrZ ((lnZ x.1) - u.1) < u.2.1) = true -> ((q21, []), q21, q61) = takeD x.1) /\ (decide (wrZ ((lnZ x.1) - u.1) < u.2.1) = false -> (q57 x) /\
  ((q73 u x) /\ ((q78 u x) /\ (q74 u x) /\ True) /\ True) /\ ((q73 u x) /\ ((q78 u x) /\ (q74 u x) /\ (q75 u x) /\ True) /\ True) /\ ((q78 u x) /\ ((q74 u x) /\ True) /\ ((q74 u x) /\ (q75 u
  x) /\ True) /\ True) /\ True))))) /\ True)
theorem e64 : t64 = Con.vc c_r01_Take GL (mkEnvO ty [(99, conSem c_r01_IsTag)] [] [] [0, 2, 3, 4, 5, 6, 7, 8, 11, 18, 22, 33, 36, 47, 53, 57, 70, 79] [1000000]) {joins := [25]} Try.f64.ntmps Try.f64.results.toList (bodyOf Try.f64) := by kernel_rfl
theorem k64 : t64 := by
  unfold t64
  delta q1 q27 q26 q62 q64 q59 q21 q61 q57 q7 wbZ q54 lnZ q37 q58 q79 q76 q19 wrZ q56 q60 q23 q77 q50 q53 q28 q4 q33 q35 q20 q80 q52 wiZ q73 q78 q74 q75 wyZ q179 q224 q193 q199 q194 q235 q221 q223 q201 q182 q226 q225 q229
  rintro ⟨b, _⟩ hx hp
  have hp : b.length ≤ 1000000000 := hp
  have hb : Bys b := sl_bys hx.1
  try dsimp +instances only [dft_int, dft_sl, dft_str]
  simp only [true_and, and_true, eq_self_iff_true, implies_true, reduceCtorEq, false_implies, true_implies, decide_eq_true_eq, decide_eq_false_iff_not, beq_self_eq_true, Bool.not_eq_true', ne_eq, Decidable.not_not, List.nil_append, List.length_singleton, List.length_cons, List.length_nil, Nat.zero_add, Nat.add_zero, Nat.mul_one, and_self, beq_iff_eq, Bool.not_true, Bool.not_false, Bool.not_eq_false', Bool.cond_false_right, Bool.and_eq_true, imp_self, Bool.not_eq_true, Bool.cond_true_left, Bool.or_eq_true]
  have b0 := bys_get hb 0
  have b1 := bys_get hb 1
  rw [wrapK (b.getD 0 0) (by omega) (by omega), wrapK (b.getD 1 0) (by omega) (by omega), wrapK (b.getD 1 0 - 128) (by omega) (by omega), wrapK (2 + (b.getD 1 0 - 128)) (by omega) (by omega)]
  have hnil : b = [] ↔ (b.length : Int) = 0 := ⟨fun h => by rw [h]; rfl, fun h => List.eq_nil_of_length_eq_zero (by omega)⟩
  refine ⟨by decide, fun h => (take_bad (by rw [headK, if_pos (hnil.2 h)]) (by decide)).symm, fun h => ⟨⟨by decide, by omega⟩, ?_⟩⟩
  have c1 : ¬ b = [] := fun e => h (hnil.1 e)
  rintro ⟨q, _⟩ _ eq
  simp only at eq ⊢
  subst eq
  refine ⟨fun h1 => (take_bad (by rw [headK, if_neg c1, if_pos h1]) (by decide)).symm, fun h1 => ?_⟩
  have c2 : ¬ isTagD (b.getD 0 0) = false := by rw [h1]; decide
  refine ⟨fun h2 => (take_bad (by rw [headK, if_neg c1, if_neg c2, if_pos (by omega)]) (by decide)).symm, fun h2 => ⟨⟨by decide, by omega⟩, fun h3 => ?_, fun h3 => ?_⟩⟩
  . refine (take_bad ?_ (by decide)).symm
    rw [headK, if_neg c1, if_neg c2, if_neg (by omega), if_neg (by omega), if_pos (by omega)]
  have c3 : ¬ b.length = 1 := by omega
  have h3' : ¬ b.getD 1 0 = 128 ∧ ¬ 131 < b.getD 1 0 := by
    simp only [Bool.or_eq_false_iff, decide_eq_false_iff_not] at h3
    exact h3
  refine ⟨fun u _ => headK b = (b.getD 0 0, u.1, u.2.1, 0), ⟨fun h4 => ⟨fun g => ⟨g, by decide, g⟩, fun g => ?_, fun g => ⟨fun h5 => ?_, fun h5 => ?_⟩⟩, fun h4 => ?_⟩, ?_⟩
  . refine (take_bad ?_ (by decide)).symm
    rw [headK, if_neg c1, if_neg c2, if_neg c3, if_neg (by omega), if_pos (.inr (.inr ⟨by omega, g.2⟩))]
  . have g2 : ¬ (b.getD 1 0 = 128 ∨ 131 < b.getD 1 0 ∨ (2 < b.length ∧ b.getD 2 0 = 0)) := by
      simp only [Bool.and_eq_false_iff, decide_eq_false_iff_not] at g
      omega
    refine (take_bad ?_ (by decide)).symm
    rw [headK, if_neg c1, if_neg c2, if_neg c3, if_neg (by omega), if_neg g2, if_pos h5]
  . have g2 : ¬ (b.getD 1 0 = 128 ∨ 131 < b.getD 1 0 ∨ (2 < b.length ∧ b.getD 2 0 = 0)) := by
      simp only [Bool.and_eq_false_iff, decide_eq_false_iff_not] at g
      omega
    have hl : ((b.drop 2).take (b.getD 1 0 - 128).toNat).length = (b.getD 1 0 - 128).toNat := by rw [List.length_take, List.length_drop]; omega
    have hbl : Bys ((b.drop 2).take (b.getD 1 0 - 128).toNat) := bys_take (bys_drop hb 2) _
    refine ⟨fun y _ => 0 ≤ y.1 ∧ y.1 ≤ b.getD 1 0 - 128 ∧ y.2.1 = numB (((b.drop 2).take (b.getD 1 0 - 128).toNat).take y.1.toNat), fun y _ => (b.getD 1 0 - 128 - y.1).toNat, ⟨Int.le_refl 0, by simp only; omega, rfl⟩, ?_⟩
    rintro ⟨i, n, _⟩ _ _ ⟨i0, i1, en⟩
    simp only at i0 i1 en ⊢
    refine ⟨fun hlt => ?_, fun hge => ?_⟩
    . have hnb := num_bound hbl (j := i.toNat) (by omega)
      rw [← en] at hnb
      rw [wrapK (2 + i) (by omega) (by omega)]
      have hg : ((b.drop 2).take (b.getD 1 0 - 128).toNat).getD i.toNat 0 = b.getD (2 + i).toNat 0 := by
        rw [getD_take _ _ _ (by omega), getD_drop, show 2 + i.toNat = (2 + i).toNat by omega]
      have hbi := bys_get hb (2 + i).toNat
      rw [wrapK (i + 1) (by omega) (by omega), wrapK (256 * n) (by omega) (by omega), wrapK (b.getD (2 + i).toNat 0) (by omega) (by omega), wrapK _ (by omega) (by omega)]
      refine ⟨⟨by omega, by omega⟩, ⟨by omega, by omega, ?_⟩, by omega⟩
      rw [show (i + 1).toNat = i.toNat + 1 by omega, take_snoc _ _ (by omega), num_snoc, en, hg]
    . rw [List.take_of_length_le (by omega)] at en
      rw [en]
      refine ⟨fun h6 => (take_bad ?_ (by decide)).symm, fun h6 => ?_⟩
      . rw [headK, if_neg c1, if_neg c2, if_neg c3, if_neg (by omega), if_neg g2, if_neg h5, if_pos h6]
      . rw [headK, if_neg c1, if_neg c2, if_neg c3, if_neg (by omega), if_neg g2, if_neg h5, if_neg h6]
  . rw [headK, if_neg c1, if_neg c2, if_neg c3, if_pos (by omega)]
  . rintro ⟨f, n, j1, j2, _⟩ _ _ _ hK
    simp only at hK ⊢
    have hok := head_ok hb (by rw [hK])
    rw [hK] at hok
    simp only at hok
    rw [take_good hK, wrapK ((b.length : Int) - f) (by omega) (by omega)]
    refine ⟨fun h6 => by rw [if_pos h6], fun h6 => ?_⟩
    rw [if_neg h6, wrapK (f + n) (by omega) (by omega)]
    refine ⟨⟨by decide, by omega⟩, ⟨by omega, by omega, by omega⟩, by decide, by rw [List.length_drop, List.length_take]; omega, by rw [List.length_drop, List.length_take]; omega, ?_⟩
    rw [List.drop_take, show (f + n).toNat - f.toNat = n.toNat by omega]
theorem h64 : c_r01_Take.ok Try.prog GL 64 := conO_ok (H := {joins := [25]}) (mkEnvO_ok (gl := GL) (l := [(99, conSem c_r01_IsTag)]) (q := []) (d := []) _ [1000000] tyOk (by kernel_rfl) ⟨h99.call, trivial⟩ trivial trivial) (by kernel_rfl) (by kernel_rfl) (Eq.mp e64 k64)
end Go.Proofs.Ytiofbnlbfmbodaa
end
