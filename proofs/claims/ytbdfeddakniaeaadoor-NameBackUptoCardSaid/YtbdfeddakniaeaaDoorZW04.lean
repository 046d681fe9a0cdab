/- Texts of a verified walk, led together: DerA, DerW, DerrA, DerrW, OidA, OidW. -/
import Derived.Test.YtbdfeddakniaeaaDoorZW03
import Derived.Test.YtbdfeddakniaeaaDoorZV09
import Derived.Test.YtbdfeddakniaeaaDoorZV08
set_option linter.unusedVariables false
set_option linter.unusedSimpArgs false
section
namespace Go.Proofs.YtbdfeddakniaeaaDoor
open Go Go.Vc Go.Pl Go.Proofs
def c_der_isTag : Con := { args := [.dat I64], res := [.dat .bool], pre := fun _ => True, post := fun x y => y.1 = isTagD x.1 }
def c_der_length : Con := { args := [.dat I64], res := [.own 5 U8], pre := fun x => 0 ≤ x.1 ∧ x.1 ≤ 16777215, post := fun x y => y.1 = lngD x.1 }
def c_slices_Clone_byte_byte : Con := { args := [.dat BY], res := [.dat BY], pre := fun x => lenB x.1 ≤ 1000000000, post := fun x y => y.1 = x.1 }
def c_slices_Concat_byte_byte : Con := { args := [.dat (.sl BY)], res := [.own 5 U8], pre := fun x => lenF x.1 ≤ 1000000000, post := fun x y => y.1 = x.1.flatten }
def c_der_Put : Con := { args := [.dat BY, .dat I64, .dat (.sl BY)], res := [.own 5 U8, .dat I64], pre := fun x => lenB x.1 ≤ 900000000, post := fun x y => (y.1, y.2.1) = PutD x.1 x.2.1 x.2.2.1.flatten }
def c_der_head : Con := { args := [.dat BY], res := [.dat I64, .dat I64, .dat I64, .dat I64], pre := fun x => lenB x.1 ≤ 1000000000, post := fun x y => (y.1, y.2.1, y.2.2.1, y.2.2.2.1) = headK x.1 }
def c_der_Take : Con := { args := [.dat BY], res := [.dat ET, .dat I64, .dat I64], pre := fun x => lenB x.1 ≤ 1000000000, post := fun x y => (y.1, y.2.1, y.2.2.1) = takeD x.1 }
def c_der_One : Con := { args := [.dat BY], res := [.dat ET, .dat I64], pre := fun x => lenB x.1 ≤ 1000000000, post := fun x y => (y.1, y.2.1) = oneD x.1 }
def c_der_Size : Con := { args := [.dat I64], res := [.dat I64], pre := fun _ => True, post := fun x y => y.1 = sizeD x.1 }
def c_der_All : Con := { args := [.dat BY], res := [.own 70 ET, .dat I64, .dat I64], pre := fun x => lenB x.1 ≤ 1000000000, post := fun x y => (y.1, y.2.1, y.2.2.1) = allD x.1 }
end Go.Proofs.YtbdfeddakniaeaaDoor
end
section
namespace Go.Proofs.YtbdfeddakniaeaaDoor
open Go Go.Vc Go.Pl Go.Proofs
set_option linter.unusedVariables false
set_option linter.unusedSimpArgs false
abbrev q18 := (Int × Unit -> List Int × Unit -> Prop)
abbrev q19 := (Int × Unit -> List Int × Unit -> Nat)
abbrev q20 := ((Int × List Int) × Int × Int × Unit)
abbrev q178 (p0 : q1) := (bif decide (q229 <= p0.1) then decide (p0.1 <= (255 : Int)) else false)
abbrev q92 (p0 : q1) := ((q178 p0) = true -> ((q178 p0) == true) = true /\ True)
abbrev q201 := (Kd.dft (Kd.sl q233))
abbrev q217 := (9223372036854775807 : Nat)
abbrev q93 (p0 : q1) (p1 : List (List Int) × Unit) (p2 : q4) (p3 : q5) (p4 : q18) (p5 : q19) := (decide (p0.1 < (lnZ p1.1)) = true -> (q172 <= p0.1 /\ p0.1 < (lnZ p1.1)) /\ q185 < (1 : Nat)
  /\ (List.length p2.1 + List.length (List.getD p1.1 (Int.toNat p0.1) q201)) * (1 : Nat) <= (140737488355328 : Nat) /\ List.length p2.1 + List.length (List.getD p1.1 (Int.toNat p0.1) q201) <=
  q217 /\ (lnZ p1.1) = (lnZ p1.1) /\ p1.1 = p1.1 /\ Value.bool false = Value.bool false /\ p3.1 = p3.1 /\ (lnZ p1.1) = (lnZ p1.1) /\ p1.1 = p1.1 /\ p3.2.1 = p3.2.1 /\ Value.slice none q185
  q185 = Value.slice none q185 q185 /\ p1.1 = p1.1 /\ p4 (wrZ (q167 p0), ()) (p2.1 ++ List.getD p1.1 (Int.toNat p0.1) q201, ()) /\ p5 (wrZ (q167 p0), ()) (p2.1 ++ List.getD p1.1 (Int.toNat
  p0.1) q201, ()) < p5 p0 p2)
abbrev q179 (p0 : q5) := (p0.2.1 - wrZ (q229 - q229))
abbrev q94 (p0 : q5) := (List.replicate (Int.toNat (wrZ (q179 p0))) q200)
abbrev q95 (p0 : q5) (p1 : List (List Int) × Unit) := (p0.2.1 + (lnZ (List.getD p1.1 (Int.toNat p0.1) q201)))
abbrev q96 := (Kd.sl (Kd.sl q233))
abbrev q97 (p0 : List Int × Int × List (List Int) × Unit) (p1 : Int × Int × Int × Unit) := (lnZ (List.getD p0.2.2.1 (Int.toNat p1.1) q201))
abbrev q223 (p0 : q4) := (List.getD p0.1 (1 : Nat) (Kd.dft q233))
abbrev q219 (p0 : q4) := (wrZ (q223 p0) - (128 : Int))
abbrev q202 (p0 : q4) := (bif decide (wrZ (q219 p0) = q229) then true else decide ((3 : Int) < wrZ (q219 p0)))
abbrev q98 (p0 : q4) := (((q202 p0) == false && (q202 p0) == false) = true -> decide (q181 < (lnZ p0.1)) = true -> ((q202 p0) == false && (q202 p0) == false && decide (q181 < (lnZ p0.1)) ==
  true) = true /\ True)
abbrev q99 (p0 : q4) := ((q202 p0) == false && (q202 p0) == false && decide (q181 < (lnZ p0.1)) == true)
abbrev q180 (p0 : q4) := ((bif decide (wrZ (q219 p0) = q229) then true else decide ((3 : Int) < wrZ (q219 p0))) == false)
abbrev q100 (p0 : q4) := ((q202 p0) = false -> (q180 p0) = true /\ True)
abbrev q101 (p0 : q4) := ((q202 p0) == false && (q202 p0) == false)
abbrev q203 (p0 : q4) := (wrZ (q219 p0) = q229)
abbrev q204 (p0 : q4) := ((3 : Int) < wrZ (q219 p0))
abbrev q102 (p0 : q4) := (bif bif decide (q203 p0) then true else decide (q204 p0) then true else bif decide (q181 < (lnZ p0.1)) then decide (List.getD p0.1 (2 : Nat) q200 = q172) else
  false)
abbrev q218 (p0 : q4) := (Int.toNat (wrZ ((2 : Int) + wrZ (wrZ (q223 p0) - (128 : Int)))))
abbrev q205 (p0 : q4) := (List.drop (2 : Nat) (List.take (q218 p0) p0.1))
abbrev q103 (p0 : q5) (p1 : q4) := (↑(BitVec.toNat (BitVec.ofInt (64 : Nat) (wrZ (p0.2.1 * q181 ^ (8 : Nat))) ||| BitVec.ofInt (64 : Nat) (wrZ (List.getD (q205 p1) (Int.toNat p0.1) q200))))
  : Int)
abbrev q104 (p0 : q4) := ((q202 p0) = false -> True)
abbrev q105 (p0 : q4) := (bif decide (q203 p0) then true else decide (q204 p0))
abbrev q106 (p0 : q5) (p1 : q4) := (p0.1 < (lnZ (q205 p1)))
abbrev q107 (p0 : q4) := (lnZ (q205 p0))
abbrev q108 (p0 : q4) := (List.take (q218 p0) p0.1)
abbrev q109 (p0 : q4) := (decide (q203 p0) == false)
abbrev q110 (p0 : q4) := ((lnZ p0.1) < wrZ ((2 : Int) + wrZ (wrZ (q223 p0) - (128 : Int))))
abbrev q111 (p0 : q4) := (wrZ (q219 p0) = q172)
abbrev q112 (p0 : q4) := (q181 + wrZ (q219 p0))
abbrev q113 (p0 : q4) := (wrZ (q223 p0) - q166)
abbrev q114 := (Kd.dft q211)
abbrev q182 (p0 : Int × Int × Int × Int × Unit) := (p0.2.2.2.1 = q229)
abbrev q115 (p0 : Int × Int × Int × Int × Unit) := (decide (q182 p0) = true -> (decide (q182 p0) == true) = true /\ (decide (q182 p0) == true) = true /\ True)
abbrev q186 := (Kd.pair q212 (Kd.sl q233))
abbrev q116 (p0 : q20) := (Kd.wf q186 p0.1 /\ wiZ p0.2.1 /\ wiZ p0.2.2.1 /\ True)
abbrev q184 (p0 : q1) (p1 : q1) (p2 : q20) := (wrZ (p0.1 + p1.1) + (lnZ p2.1.2))
abbrev q206 (p0 : q20) (p1 : q4) (p2 : Int × Unit -> Unit × (Int × Unit) × (List Int × Unit) × List (Int × List Int) × Unit -> Prop) (p3 : q1) (p4 : Unit × (Int × Unit) × (List Int × Unit)
  × List (Int × List Int) × Unit) (p5 : Int × Unit -> Unit × (Int × Unit) × (List Int × Unit) × List (Int × List Int) × Unit -> Nat) := ((True /\ (∀ (y_2 : q1), (wiZ y_2.1 /\ True) -> y_2.1 =
  sizeD (lnZ p0.1.2) -> (((q229 = q229 /\ q229 = q229 /\ Value.slice none (0 : Nat) (0 : Nat) = Value.slice none (0 : Nat) (0 : Nat) /\ p1.1 = p1.1 /\ p2 (wrZ (p3.1 + p0.2.1), ()) ((), (wrZ
  (wrZ (p3.1 + y_2.1) + (lnZ p0.1.2)), ()), (p4.2.2.1.1, ()), p4.2.2.2.1 ++ [(p0.1.1, p0.1.2)], ()) /\ p5 (wrZ (p3.1 + p0.2.1), ()) ((), (wrZ (wrZ (p3.1 + y_2.1) + (lnZ p0.1.2)), ()),
  (p4.2.2.1.1, ()), p4.2.2.2.1 ++ [(p0.1.1, p0.1.2)], ()) < p5 p3 p4) /\ True) /\ True) /\ True) /\ True) /\ True)
abbrev q117 (p0 : q20) (p1 : q4) (p2 : Int × Unit -> Unit × (Int × Unit) × (List Int × Unit) × List (Int × List Int) × Unit -> Prop) (p3 : q1) (p4 : Unit × (Int × Unit) × (List Int × Unit)
  × List (Int × List Int) × Unit) (p5 : Int × Unit -> Unit × (Int × Unit) × (List Int × Unit) × List (Int × List Int) × Unit -> Nat) := (((True /\ (∀ (y_2 : q1), (wiZ y_2.1 /\ True) -> y_2.1
  = sizeD (lnZ p0.1.2) -> ((((q172 = q172 /\ q172 = q172 /\ Value.slice none q185 q185 = Value.slice none q185 q185 /\ p1.1 = p1.1 /\ p2 (wrZ (p3.1 + p0.2.1), ()) ((), (wrZ (q184 p3 y_2 p0),
  ()), (p4.2.2.1.1, ()), p4.2.2.2.1 ++ [(p0.1.1, p0.1.2)], ()) /\ p5 (wrZ (p3.1 + p0.2.1), ()) ((), (wrZ (q184 p3 y_2 p0), ()), (p4.2.2.1.1, ()), p4.2.2.2.1 ++ [(p0.1.1, p0.1.2)], ()) < p5 p3
  p4) /\ True) /\ True) /\ True) /\ ((((q172 = q172 /\ q172 = q172 /\ Value.slice none q185 q185 = Value.slice none q185 q185 /\ p1.1 = p1.1 /\ p2 (wrZ (p3.1 + p0.2.1), ()) ((), (wrZ (q184 p3
  y_2 p0), ()), (p4.2.2.1.1, ()), p4.2.2.2.1 ++ [(p0.1.1, p0.1.2)], ()) /\ p5 (wrZ (p3.1 + p0.2.1), ()) ((), (wrZ (q184 p3 y_2 p0), ()), (p4.2.2.1.1, ()), p4.2.2.2.1 ++ [(p0.1.1, p0.1.2)],
  ()) < p5 p3 p4) /\ True) /\ True) /\ True) /\ True) /\ True) /\ (q206 p0 p1 p2 p3 p4 p5) /\ True) /\ ((q206 p0 p1 p2 p3 p4 p5) /\ True) /\ True)
abbrev q118 (p0 : Unit × (Int × Unit) × (List Int × Unit) × List (Int × List Int) × Unit) (p1 : q4) := (decide (p0.2.1.1 = (lnZ p1.1)) = false -> (q172 <= p0.2.1.1 /\ p0.2.1.1 <= (lnZ
  p1.1)) /\ lenB (List.drop (Int.toNat p0.2.1.1) p1.1) <= (1000000000 : Nat) /\ (∀ (y : q20), (Kd.wf q186 y.1 /\ wiZ y.2.1 /\ wiZ y.2.2.1 /\ True) -> (y.1, y.2.1, y.2.2.1) = takeD (List.drop
  (Int.toNat p0.2.1.1) p1.1) -> (2 : Nat) <= (65536 : Nat) /\ ([], p0.2.1.1, y.2.2.1) = allD p1.1) /\ True)
abbrev q119 := (Kd.sl q186)
abbrev q183 (p0 : q20) (p1 : q4) (p2 : Int × Unit -> Unit × (Int × Unit) × (List Int × Unit) × List q81 × Unit -> Prop) (p3 : q1) (p4 : Unit × (Int × Unit) × (List Int × Unit) × List q81 ×
  Unit) (p5 : Int × Unit -> Unit × (Int × Unit) × (List Int × Unit) × List q81 × Unit -> Nat) := ((True /\ (∀ (y_2 : q1), (wiZ y_2.1 /\ True) -> y_2.1 = sizeD (lnZ p0.1.2) -> (((q229 = q229
  /\ q229 = q229 /\ Value.slice none (0 : Nat) (0 : Nat) = Value.slice none (0 : Nat) (0 : Nat) /\ p1.1 = p1.1 /\ p2 (wrZ (p3.1 + p0.2.1), ()) ((), (wrZ (wrZ (p3.1 + y_2.1) + (lnZ p0.1.2)),
  ()), (p4.2.2.1.1, ()), p4.2.2.2.1 ++ [(p0.1.1, p0.1.2)], ()) /\ p5 (wrZ (p3.1 + p0.2.1), ()) ((), (wrZ (wrZ (p3.1 + y_2.1) + (lnZ p0.1.2)), ()), (p4.2.2.1.1, ()), p4.2.2.2.1 ++ [(p0.1.1,
  p0.1.2)], ()) < p5 p3 p4) /\ True) /\ True) /\ True) /\ True) /\ True)
def t135 : Prop :=
  ∀ (x : q1), (q21 x) -> True -> (decide (q25 <= x.1) = true -> True) /\ (decide (q25 <= x.1) = true -> (decide (q25 <= x.1) == true) = true /\ True) /\ (decide (q25 <= x.1) = true -> (decide
  (q25 <= x.1) == true) = true) /\ ((q178 x) = true -> True) /\ (q92 x) /\ (q92 x) /\ ((q178 x) = true -> ((q178 x) == true) = true) /\ (bif bif decide (q25 <= x.1) then decide (x.1 <= (255 :
  Int)) else false then decide (wrZ (↑(BitVec.toNat (BitVec.ofInt (64 : Nat) x.1 &&& BitVec.ofInt (64 : Nat) (31 : Int))) : Int) ≠ (31 : Int)) else false) = isTagD x.1
theorem e135 : t135 = Con.vc c_der_isTag GL (mkEnv ty [] [] [] [0, 2]) {} Tryd.f135.ntmps Tryd.f135.results.toList (bodyOf Tryd.f135) := by kernel_rfl
theorem k135 : t135 := by
  unfold t135
  delta q1 q21 q25 q178 q92 wrZ wiZ q229
  rintro ⟨t, _⟩ hx hp
  try dsimp +instances only [dft_int, dft_sl, dft_str]
  simp only [true_and, and_true, eq_self_iff_true, implies_true, reduceCtorEq, false_implies, true_implies, decide_eq_true_eq, decide_eq_false_iff_not, beq_self_eq_true, Bool.not_eq_true', ne_eq, Decidable.not_not, List.nil_append, List.length_singleton, List.length_cons, List.length_nil, Nat.zero_add, Nat.add_zero, Nat.mul_one, and_self, beq_iff_eq, Bool.not_true, Bool.not_false, Bool.not_eq_false', Bool.cond_false_right, Bool.and_eq_true, imp_self, Bool.not_eq_true, Bool.cond_true_left, Bool.or_eq_true]
  exact isTag_eq t
theorem h135 : c_der_isTag.ok Tryd.prog GL 135 := con_ok (H := {}) (mkEnv_ok (gl := GL) (l := []) (q := []) (d := []) _ tyOk (by kernel_rfl) trivial trivial trivial) (by kernel_rfl) (by kernel_rfl) (Eq.mp e135 k135)
def t136 : Prop :=
  ∀ (x : q1), (q21 x) -> q25 <= x.1 /\ x.1 <= (16777215 : Int) -> (decide (x.1 < q166) = true -> [IntKind.wrap IntKind.u8 x.1] = lngD x.1) /\ (decide (x.1 < q166) = false -> (decide (x.1 <
  (256 : Int)) = true -> [(129 : Int), IntKind.wrap IntKind.u8 x.1] = lngD x.1) /\ (decide (x.1 < (256 : Int)) = false -> (decide (x.1 < (65536 : Int)) = true -> q25 <= (8 : Int) /\ [(130 :
  Int), IntKind.wrap IntKind.u8 (Int.fdiv x.1 (q50 ^ (8 : Nat))), IntKind.wrap IntKind.u8 x.1] = lngD x.1) /\ (decide (x.1 < (65536 : Int)) = false -> q25 <= (16 : Int) /\ q25 <= (8 : Int) /\
  [(131 : Int), IntKind.wrap IntKind.u8 (Int.fdiv x.1 (q50 ^ (16 : Nat))), IntKind.wrap IntKind.u8 (Int.fdiv x.1 (q50 ^ (8 : Nat))), IntKind.wrap IntKind.u8 x.1] = lngD x.1)))
theorem e136 : t136 = Con.vc c_der_length GL (mkEnv ty [] [] [] [0, 2, 3, 9, 15]) {} Tryd.f136.ntmps Tryd.f136.results.toList (bodyOf Tryd.f136) := by kernel_rfl
theorem k136 : t136 := by
  unfold t136
  delta q1 q21 q25 q166 q50 wiZ
  rintro ⟨n, _⟩ hx hp
  obtain ⟨h0, h1⟩ := hp
  simp only at h0 h1
  try dsimp +instances only [dft_int, dft_sl, dft_str]
  simp only [true_and, and_true, eq_self_iff_true, implies_true, reduceCtorEq, false_implies, true_implies, decide_eq_true_eq, decide_eq_false_iff_not, beq_self_eq_true, Bool.not_eq_true', ne_eq, Decidable.not_not, List.nil_append, List.length_singleton, List.length_cons, List.length_nil, Nat.zero_add, Nat.add_zero, Nat.mul_one, and_self, beq_iff_eq, Bool.not_true, Bool.not_false, Bool.not_eq_false', Bool.cond_false_right, Bool.and_eq_true, imp_self, Bool.not_eq_true, Bool.cond_true_left, Bool.or_eq_true]
  have e8 := (fdiv_pow h0).1
  have e16 := (fdiv_pow h0).2
  rw [e8, e16, wrap_u8m, wrap_u8m, wrap_u8m]
  refine ⟨fun h => ?_, fun h => ⟨fun h2 => ?_, fun h2 => ⟨fun h3 => ⟨by decide, ?_⟩, fun h3 => ⟨by decide, by decide, ?_⟩⟩⟩⟩
  . rw [lngD, if_pos h, show n % 256 = n by omega]
  . rw [lngD, if_neg h, if_pos h2, show n % 256 = n by omega]
  . rw [lngD, if_neg h, if_neg h2, if_pos h3, show n / 256 % 256 = n / 256 by omega]
  . rw [lngD, if_neg h, if_neg h2, if_neg h3, show n / 65536 % 256 = n / 65536 by omega]
theorem h136 : c_der_length.ok Tryd.prog GL 136 := con_ok (H := {}) (mkEnv_ok (gl := GL) (l := []) (q := []) (d := []) _ tyOk (by kernel_rfl) trivial trivial trivial) (by kernel_rfl) (by kernel_rfl) (Eq.mp e136 k136)
def t119 : Prop :=
  ∀ (x : q4), (q89 x) -> lenB x.1 <= q69 -> ∀ (b : Bool), (b = true -> x.1 = []) -> (b = true -> [] = x.1) /\ (b = false -> q48 < q24 /\ (q48 + List.length x.1) * q24 <= q64 /\ q48 +
  List.length x.1 <= q63 /\ [] ++ x.1 = x.1)
theorem e119 : t119 = Con.vc c_slices_Clone_byte_byte GL (mkEnv ty [] [] [] [0, 2, 4]) {} Tryd.f119.ntmps Tryd.f119.results.toList (bodyOf Tryd.f119) := by kernel_rfl
theorem k119 : t119 := by
  unfold t119
  delta q4 q89 q69 q48 q24 q64 q63 wyZ
  rintro ⟨l, _⟩ hx hp
  have hp : l.length ≤ 1000000000 := hp
  try dsimp +instances only [dft_int, dft_sl, dft_str]
  simp only [true_and, and_true, eq_self_iff_true, implies_true, reduceCtorEq, false_implies, true_implies, decide_eq_true_eq, decide_eq_false_iff_not, beq_self_eq_true, Bool.not_eq_true', ne_eq, Decidable.not_not, List.nil_append, List.length_singleton, List.length_cons, List.length_nil, Nat.zero_add, Nat.add_zero, Nat.mul_one, and_self, beq_iff_eq, Bool.not_true, Bool.not_false, Bool.not_eq_false', Bool.cond_false_right, Bool.and_eq_true, imp_self, Bool.not_eq_true, Bool.cond_true_left, Bool.or_eq_true]
  intro b hb
  exact ⟨fun h => (hb h).symm, fun _ => ⟨by decide, by omega, by omega⟩⟩
theorem h119 : c_slices_Clone_byte_byte.ok Tryd.prog GL 119 := con_ok (H := {}) (mkEnv_ok (gl := GL) (l := []) (q := []) (d := []) _ tyOk (by kernel_rfl) trivial trivial trivial) (by kernel_rfl) (by kernel_rfl) (Eq.mp e119 k119)
noncomputable def i159 : CallSem := cutSem <| vcFn (mkEnv ty [] [] [] [0, 1, 4, 6, 16]) {} Tryd.f159.ntmps Tryd.f159.results.toList (bodyOf Tryd.f159)
theorem i159_ok : CallOk Tryd.prog GL 159 i159 := cut_ok <| inl_ok {} (mkEnv_ok (gl := GL) (l := []) (q := []) (d := []) _ tyOk (by kernel_rfl) trivial trivial trivial) (by kernel_rfl) (by kernel_rfl)
def t118 : Prop :=
  ∀ (x : List (List Int) × Unit), (Kd.wf q96 x.1 /\ True) -> lenF x.1 <= q69 -> ∃ (I : q16), ∃ (μ : q17), ((lnZ x.1) = (lnZ x.1) /\ x.1 = x.1 /\ Value.slice none q48 q48 = Value.slice none
  q48 q48 /\ x.1 = x.1 /\ I (q25, q25, ()) ()) /\ ∀ (y : q5) (z : Unit), (q90 y) -> True -> I y z -> (decide (y.1 < (lnZ x.1)) = true -> (q25 <= y.1 /\ y.1 < (lnZ x.1)) /\ (decide (wrZ (q95 y
  x) < q25) = true -> False) /\ (decide (wrZ (q95 y x) < q25) = false -> (lnZ x.1) = (lnZ x.1) /\ x.1 = x.1 /\ Value.slice none q48 q48 = Value.slice none q48 q48 /\ x.1 = x.1 /\ I (wrZ (q91
  y), wrZ (q95 y x), ()) () /\ μ (wrZ (q91 y), wrZ (q95 y x), ()) () < μ y z)) /\ (decide (y.1 < (lnZ x.1)) = false -> (decide (y.2.1 < q25) = true -> False) /\ (decide (y.2.1 < q25) = false
  -> (decide (q25 < wrZ (q179 y)) = true -> (q25 <= q25 /\ q25 <= (↑q48 : Int)) /\ q25 < wrZ (q179 y) /\ wrZ (q179 y) <= (1000000000 : Int) /\ (q25 <= q25 /\ q25 <= (lnZ (q94 y))) /\ q48 =
  q48 /\ ∃ (I : q18), ∃ (μ : q19), ((lnZ x.1) = (lnZ x.1) /\ x.1 = x.1 /\ Value.bool false = Value.bool false /\ y.1 = y.1 /\ (lnZ x.1) = (lnZ x.1) /\ x.1 = x.1 /\ y.2.1 = y.2.1 /\
  Value.slice none q48 q48 = Value.slice none q48 q48 /\ x.1 = x.1 /\ I (q25, ()) (List.take (q48 - q48) (q94 y), ())) /\ ∀ (y_1 : q1) (z : q4), (q21 y_1) -> (q89 z) -> I y_1 z -> (q93 y_1 x
  z y I μ) /\ (decide (y_1.1 < (lnZ x.1)) = false -> z.1 = List.flatten x.1)) /\ (decide (q25 < wrZ (q179 y)) = false -> ∃ (I : q18), ∃ (μ : q19), ((lnZ x.1) = (lnZ x.1) /\ x.1 = x.1 /\
  Value.bool false = Value.bool false /\ y.1 = y.1 /\ (lnZ x.1) = (lnZ x.1) /\ x.1 = x.1 /\ y.2.1 = y.2.1 /\ Value.slice none q48 q48 = Value.slice none q48 q48 /\ x.1 = x.1 /\ I (q25, ())
  ([], ())) /\ ∀ (y_1 : q1) (z : q4), (q21 y_1) -> (q89 z) -> I y_1 z -> (q93 y_1 x z y I μ) /\ (decide (y_1.1 < (lnZ x.1)) = false -> z.1 = List.flatten x.1))))
theorem e118 : t118 = Con.vc c_slices_Concat_byte_byte GL (mkEnv ty [(159, i159)] [] [] [0, 2, 3, 5, 6, 8, 9, 10, 11, 12, 20, 25, 26, 27, 28]) {} Tryd.f118.ntmps Tryd.f118.results.toList (bodyOf Tryd.f118) := by kernel_rfl
theorem k118 : t118 := by
  unfold t118
  delta q96 q69 q16 q17 lnZ q48 q25 q5 q90 wrZ q95 q91 q179 q94 q18 q19 q1 q4 q21 q89 q93 q233 wiZ q201 q229 q200 wyZ q172 q185 q217 q167 q211
  rintro ⟨xs, _⟩ hx hp
  have hp : xs.flatten.length ≤ 1000000000 := hp
  have hl : xs.length ≤ 9223372036854775807 := hx.1.1
  try dsimp +instances only [dft_int, dft_sl, dft_str]
  simp only [true_and, and_true, eq_self_iff_true, implies_true, reduceCtorEq, false_implies, true_implies, decide_eq_true_eq, decide_eq_false_iff_not, beq_self_eq_true, Bool.not_eq_true', ne_eq, Decidable.not_not, List.nil_append, List.length_singleton, List.length_cons, List.length_nil, Nat.zero_add, Nat.add_zero, Nat.mul_one, and_self, beq_iff_eq, Bool.not_true, Bool.not_false, Bool.not_eq_false', Bool.cond_false_right, Bool.and_eq_true, imp_self, Bool.not_eq_true, Bool.cond_true_left, Bool.or_eq_true]
  refine ⟨fun y z => 0 ≤ y.1 ∧ y.1 ≤ xs.length ∧ y.2.1 = ((xs.take y.1.toNat).flatten.length : Int), fun y z => xs.length - y.1.toNat, ⟨Int.le_refl 0, by simp only; omega, by simp⟩, ?_⟩
  rintro ⟨i, s, _⟩ z hy ⟨h0, h1, h2⟩
  simp only at h0 h1 h2 ⊢
  have hs := flat_bound xs i.toNat
  refine ⟨fun hlt => ?_, fun hge => ⟨fun h => by omega, fun _ => ⟨fun hpos => ?_, fun _ => flat_loop xs hl hp [] rfl⟩⟩⟩
  . have e := take_flat xs i.toNat (by omega)
    have hfl := flat_bound xs (i.toNat + 1)
    rw [e, List.length_append] at hfl
    have hw : IntKind.wrap .i64 (i + 1) = i + 1 := wrapM _ (by omega) (by omega)
    have hw2 : IntKind.wrap .i64 (s + ((xs.getD i.toNat []).length : Int)) = s + ((xs.getD i.toNat []).length : Int) := wrapK _ (by omega) (by omega)
    rw [hw, hw2]
    refine ⟨⟨h0, hlt⟩, fun h => by omega, fun _ => ⟨⟨by omega, by omega, ?_⟩, by omega⟩⟩
    rw [show (i + 1).toNat = i.toNat + 1 by omega, e, List.length_append]
    omega
  . have hw3 : IntKind.wrap .i64 (s - IntKind.wrap .i64 (0 - 0)) = s := by rw [show IntKind.wrap .i64 (0 - 0) = 0 by decide, wrapK _ (by omega) (by omega)]; omega
    rw [hw3] at hpos ⊢
    exact ⟨⟨by decide, by decide⟩, hpos, by omega, ⟨by decide, by omega⟩, flat_loop xs hl hp _ (by simp)⟩
theorem h118 : c_slices_Concat_byte_byte.ok Tryd.prog GL 118 := con_ok (H := {}) (mkEnv_ok (gl := GL) (l := [(159, i159)]) (q := []) (d := []) _ tyOk (by kernel_rfl) ⟨i159_ok, trivial⟩ trivial trivial) (by kernel_rfl) (by kernel_rfl) (Eq.mp e118 k118)
def t93 : Prop :=
  ∀ (x : List Int × Int × List (List Int) × Unit), (wyZ x.1 /\ wiZ x.2.1 /\ Kd.wf q96 x.2.2.1 /\ True) -> lenB x.1 <= (900000000 : Nat) -> True /\ (∀ (y : q9), (q57 y) -> y.1 = isTagD x.2.1
  -> ((!y.1) = true -> ([], q50) = PutD x.1 x.2.1 (List.flatten x.2.2.1)) /\ ((!y.1) = false -> ∃ (I : Int × Int × Int × Unit -> List Int × Unit -> Prop), ∃ (μ : Int × Int × Int × Unit ->
  List Int × Unit -> Nat), ((lnZ x.2.2.1) = (lnZ x.2.2.1) /\ x.2.2.1 = x.2.2.1 /\ Value.bool false = Value.bool false /\ x.1 = x.1 /\ x.2.1 = x.2.1 /\ x.2.2.1 = x.2.2.1 /\ I (q25, q25, q25,
  ()) ([], ())) /\ ∀ (y : Int × Int × Int × Unit) (z : q4), (wiZ y.1 /\ wiZ y.2.1 /\ wiZ y.2.2.1 /\ True) -> (q89 z) -> I y z -> (decide (y.1 < (lnZ x.2.2.1)) = true -> (q25 <= y.1 /\ y.1 <
  (lnZ x.2.2.1)) /\ (decide (wrZ ((16777215 : Int) - y.2.1) < (q97 x y)) = true -> ([], (3 : Int)) = PutD x.1 x.2.1 (List.flatten x.2.2.1)) /\ (decide (wrZ ((16777215 : Int) - y.2.1) < (q97 x
  y)) = false -> (lnZ x.2.2.1) = (lnZ x.2.2.1) /\ x.2.2.1 = x.2.2.1 /\ Value.bool false = Value.bool false /\ x.1 = x.1 /\ x.2.1 = x.2.1 /\ x.2.2.1 = x.2.2.1 /\ I (wrZ (y.1 + q47), wrZ (y.2.1
  + (q97 x y)), y.2.2.1, ()) (z.1, ()) /\ μ (wrZ (y.1 + q47), wrZ (y.2.1 + (q97 x y)), y.2.2.1, ()) (z.1, ()) < μ y z)) /\ (decide (y.1 < (lnZ x.2.2.1)) = false -> (q25 <= y.2.1 /\ y.2.1 <=
  (16777215 : Int)) /\ (∀ (y_1 : q4), (q89 y_1) -> y_1.1 = lngD y.2.1 -> lenF [x.1, [IntKind.wrap IntKind.u8 x.2.1], y_1.1] <= q69 /\ (∀ (y : q4), (q89 y) -> y.1 = List.flatten [x.1,
  [IntKind.wrap IntKind.u8 x.2.1], y_1.1] -> lenF x.2.2.1 <= q69 /\ (∀ (y_2 : q4), (q89 y_2) -> y_2.1 = List.flatten x.2.2.1 -> lenF [y.1, y_2.1] <= q69 /\ (∀ (y_3 : q4), (q89 y_3) -> y_3.1 =
  List.flatten [y.1, y_2.1] -> (y_3.1, q25) = PutD x.1 x.2.1 (List.flatten x.2.2.1)) /\ True) /\ True) /\ True) /\ True))) /\ True
theorem e93 : t93 = Con.vc c_der_Put GL (mkEnv ty [(135, conSem c_der_isTag), (136, conSem c_der_length), (118, conSem c_slices_Concat_byte_byte)] [] [] [0, 1, 2, 6, 7, 8, 10, 11, 14, 15, 16, 17, 18, 25]) {} Tryd.f93.ntmps Tryd.f93.results.toList (bodyOf Tryd.f93) := by kernel_rfl
theorem k93 : t93 := by
  unfold t93
  delta wyZ wiZ q96 q9 q57 q50 lnZ q25 q4 q89 wrZ q97 q47 q69 q233 wbZ q201
  rintro ⟨b, t, cs, _⟩ hx hp
  have hp : b.length ≤ 900000000 := hp
  have hcl : cs.length ≤ 9223372036854775807 := hx.2.2.1.1
  try dsimp +instances only [dft_int, dft_sl, dft_str]
  simp only [true_and, and_true, eq_self_iff_true, implies_true, reduceCtorEq, false_implies, true_implies, decide_eq_true_eq, decide_eq_false_iff_not, beq_self_eq_true, Bool.not_eq_true', ne_eq, Decidable.not_not, List.nil_append, List.length_singleton, List.length_cons, List.length_nil, Nat.zero_add, Nat.add_zero, Nat.mul_one, and_self, beq_iff_eq, Bool.not_true, Bool.not_false, Bool.not_eq_false', Bool.cond_false_right, Bool.and_eq_true, imp_self, Bool.not_eq_true, Bool.cond_true_left, Bool.or_eq_true]
  rintro ⟨q, _⟩ _ eq
  simp only at eq ⊢
  subst eq
  refine ⟨fun h => by rw [PutD, if_pos h], fun h => ?_⟩
  refine ⟨fun y _ => 0 ≤ y.1 ∧ y.1 ≤ cs.length ∧ y.2.1 = ((cs.take y.1.toNat).flatten.length : Int) ∧ y.2.1 ≤ 16777215, fun y _ => ((cs.length : Int) - y.1).toNat, ⟨Int.le_refl 0, by simp only; omega, by simp, by decide⟩, ?_⟩
  rintro ⟨i, s, k, _⟩ _ _ _ ⟨h0, h1, h2, h3⟩
  simp only at h0 h1 h2 h3 ⊢
  refine ⟨fun hlt => ?_, fun hge => ?_⟩
  . have e := take_flat cs i.toNat (by omega)
    have hl := flat_bound cs (i.toNat + 1)
    rw [e, List.length_append] at hl
    rw [wrapK (16777215 - s) (by omega) (by omega), wrapM (i + 1) (by omega) (by omega)]
    refine ⟨⟨h0, hlt⟩, fun hb => ?_, fun hb => ?_⟩
    . rw [PutD, if_neg (by rw [h]; decide), if_pos (by omega)]
    . rw [wrapK (s + ((cs.getD i.toNat []).length : Int)) (by omega) (by omega)]
      refine ⟨⟨by omega, by omega, ?_, by omega⟩, by omega⟩
      rw [show (i + 1).toNat = i.toNat + 1 by omega, e, List.length_append]
      omega
  . have hs : s = (cs.flatten.length : Int) := by rw [h2, List.take_of_length_le (by omega)]
    have hll := lng_len (n := s)
    refine ⟨⟨by omega, h3⟩, ?_⟩
    rintro ⟨l, _⟩ _ el
    simp only at el ⊢
    subst el
    refine ⟨by simp only [lenF, List.flatten_cons, List.flatten_nil, List.length_append, List.length_cons, List.length_nil]; omega, ?_⟩
    rintro ⟨o, _⟩ _ eo
    simp only at eo ⊢
    refine ⟨by rw [lenF]; omega, ?_⟩
    rintro ⟨c, _⟩ _ ec
    simp only at ec ⊢
    have hol : o.length = b.length + 1 + (lngD s).length := by rw [eo]; simp; omega
    refine ⟨by simp only [lenF, List.flatten_cons, List.flatten_nil, List.length_append, List.length_nil]; rw [ec]; omega, ?_⟩
    rintro ⟨r, _⟩ _ er
    simp only at er ⊢
    obtain ⟨t0, t1, _⟩ := tag_range h
    rw [PutD, if_neg (by rw [h]; decide), if_neg (by omega), er, eo, ec, wrap8 t t0 t1, putB]
    simp only
    rw [← hs]
    simp
theorem h93 : c_der_Put.ok Tryd.prog GL 93 := con_ok (H := {}) (mkEnv_ok (gl := GL) (l := [(135, conSem c_der_isTag), (136, conSem c_der_length), (118, conSem c_slices_Concat_byte_byte)]) (q := []) (d := []) _ tyOk (by kernel_rfl) ⟨h135.call, h136.call, h118.call, trivial⟩ trivial trivial) (by kernel_rfl) (by kernel_rfl) (Eq.mp e93 k93)
def t140 : Prop :=
  ∀ (x : q4), (q89 x) -> lenB x.1 <= q69 -> (decide ((lnZ x.1) = q25) = true -> (q25, q25, q25, (10 : Int)) = headK x.1) /\ (decide ((lnZ x.1) = q25) = false -> (q42 x) /\ True /\ (∀ (y :
  q9), (q57 y) -> y.1 = isTagD (wrZ (List.getD x.1 q48 q114)) -> ((!y.1) = true -> (q25, q25, q25, (11 : Int)) = headK x.1) /\ ((!y.1) = false -> (decide ((lnZ x.1) = q47) = true -> (q25,
  q25, q25, (10 : Int)) = headK x.1) /\ (decide ((lnZ x.1) = q47) = false -> (q43 x) /\ (decide (wrZ (q113 x) < q25) = true -> (q42 x) /\ (q43 x) /\ (wrZ (List.getD x.1 q48 q114), q50, wrZ
  (q223 x), q25) = headK x.1) /\ (decide (wrZ (q113 x) < q25) = false -> (decide (q111 x) = false -> True) /\ (decide (q111 x) = false -> (q109 x) = true /\ True) /\ (decide (q111 x) = false
  -> (q109 x) = true) /\ (q104 x) /\ (q100 x) /\ (q100 x) /\ (q104 x) /\ ((q101 x) = true -> decide (q181 < (lnZ x.1)) = true -> True) /\ ((q101 x) = true -> decide (q181 < (lnZ x.1)) = true
  -> (q99 x) = true /\ (q25 <= q50 /\ q50 < (lnZ x.1)) /\ True) /\ (q98 x) /\ (q98 x) /\ ((q105 x) = false -> (q101 x) = true /\ (decide (q181 < (lnZ x.1)) = true -> (q99 x) = true) /\ True)
  /\ ((q105 x) = false -> (q180 x) = true) /\ ((q102 x) = true -> (q25, q25, q25, (12 : Int)) = headK x.1) /\ ((q102 x) = false -> (decide (q110 x) = true -> (q25, q25, q25, (10 : Int)) =
  headK x.1) /\ (decide (q110 x) = false -> (q25 <= q50 /\ q50 <= wrZ (q112 x) /\ wrZ (q112 x) <= (lnZ x.1)) /\ ∃ (I : q16), ∃ (μ : q17), ((q107 x) = (q107 x) /\ List.drop q49 (q108 x) =
  List.drop q49 (q108 x) /\ Value.bool false = Value.bool false /\ Value.bool false = Value.bool false /\ Value.bool false = Value.bool false /\ wrZ (q113 x) = wrZ (q113 x) /\ Value.bool
  false = Value.bool false /\ Value.bool false = Value.bool false /\ Value.bool false = Value.bool false /\ q25 = q25 /\ q25 = q25 /\ q25 = q25 /\ x.1 = x.1 /\ I (q25, q25, ()) ()) /\ ∀ (y :
  q5) (z : Unit), (q90 y) -> True -> I y z -> (decide (q106 y x) = true -> (q25 <= y.1 /\ y.1 < (q107 x)) /\ q25 <= (8 : Int) /\ (q107 x) = (q107 x) /\ List.drop q49 (q108 x) = List.drop q49
  (q108 x) /\ Value.bool false = Value.bool false /\ Value.bool false = Value.bool false /\ Value.bool false = Value.bool false /\ wrZ (q113 x) = wrZ (q113 x) /\ Value.bool false = Value.bool
  false /\ Value.bool false = Value.bool false /\ Value.bool false = Value.bool false /\ q25 = q25 /\ q25 = q25 /\ q25 = q25 /\ x.1 = x.1 /\ I (wrZ (q91 y), wrZ (q103 y x), ()) () /\ μ (wrZ
  (q91 y), wrZ (q103 y x), ()) () < μ y z) /\ (decide (q106 y x) = false -> (decide (y.2.1 < q166) = true -> (q25, q25, q25, (12 : Int)) = headK x.1) /\ (decide (y.2.1 < q166) = false -> (q42
  x) /\ (wrZ (List.getD x.1 q48 q114), wrZ (q112 x), y.2.1, q25) = headK x.1)))))))) /\ True)
theorem e140 : t140 = Con.vc c_der_head GL (mkEnv ty [(135, conSem c_der_isTag)] [] [] [0, 2, 3, 4, 5, 6, 8, 9, 13, 20, 29, 40, 58, 67, 68, 69, 70, 80]) {} Tryd.f140.ntmps Tryd.f140.results.toList (bodyOf Tryd.f140) := by kernel_rfl
theorem k140 : t140 := by
  unfold t140
  delta q4 q89 q69 lnZ q25 q42 q9 q57 wrZ q48 q114 q47 q43 q113 q50 q223 q111 q109 q104 q100 q101 q181 q99 q98 q105 q180 q102 q110 q112 q16 q17 q107 q49 q108 q5 q90 q106 q91 q103 q166 wyZ q172 wbZ q211 q233 q219 q203 q202 q204 q229 q200 q205 q218 wiZ
  rintro ⟨b, _⟩ hx hp
  have hp : b.length ≤ 1000000000 := hp
  have hb : Bys b := sl_bys hx.1
  try dsimp +instances only [dft_int, dft_sl, dft_str]
  simp only [true_and, and_true, eq_self_iff_true, implies_true, reduceCtorEq, false_implies, true_implies, decide_eq_true_eq, decide_eq_false_iff_not, beq_self_eq_true, Bool.not_eq_true', ne_eq, Decidable.not_not, List.nil_append, List.length_singleton, List.length_cons, List.length_nil, Nat.zero_add, Nat.add_zero, Nat.mul_one, and_self, beq_iff_eq, Bool.not_true, Bool.not_false, Bool.not_eq_false', Bool.cond_false_right, Bool.and_eq_true, imp_self, Bool.not_eq_true, Bool.cond_true_left, Bool.or_eq_true]
  have b0 := bys_get hb 0
  have b1 := bys_get hb 1
  rw [wrapK (b.getD 0 0) (by omega) (by omega), wrapK (b.getD 1 0) (by omega) (by omega), wrapK (b.getD 1 0 - 128) (by omega) (by omega), wrapK (2 + (b.getD 1 0 - 128)) (by omega) (by omega)]
  have hnil : b = [] ↔ (b.length : Int) = 0 := ⟨fun h => by rw [h]; rfl, fun h => List.eq_nil_of_length_eq_zero (by omega)⟩
  unfold headK
  refine ⟨fun h => by rw [if_pos (hnil.2 h)], fun h => ⟨⟨by decide, by omega⟩, ?_⟩⟩
  rw [if_neg (fun e => h (hnil.1 e))]
  rintro ⟨q, _⟩ _ eq
  simp only at eq ⊢
  subst eq
  refine ⟨fun h1 => by rw [if_pos h1], fun h1 => ?_⟩
  rw [if_neg (by rw [h1]; decide)]
  refine ⟨fun h2 => by rw [if_pos (by omega)], fun h2 => ⟨⟨by decide, by omega⟩, fun h3 => ⟨⟨by decide, by omega⟩, ⟨by decide, by omega⟩, ?_⟩, fun h3 => ?_⟩⟩
  . rw [if_neg (by omega), if_pos (by omega)]
  rw [if_neg (by omega), if_neg (by omega)]
  refine ⟨fun g1 g2 => ⟨⟨g1, g2⟩, by decide, by omega⟩, fun g1 g2 => ⟨g1, g2⟩, fun g1 g2 => ⟨g1, g2⟩, fun g1 => ⟨g1, fun g2 => ⟨g1, g2⟩⟩, fun h4 => by rw [if_pos (by omega)], fun h4 => ?_⟩
  have h4' : ¬ (b.getD 1 0 = 128 ∨ 131 < b.getD 1 0 ∨ (2 < b.length ∧ b.getD 2 0 = 0)) := by
    simp only [Bool.or_eq_false_iff, Bool.and_eq_false_iff, decide_eq_false_iff_not] at h4
    omega
  rw [if_neg h4']
  refine ⟨fun h5 => by rw [if_pos h5], fun h5 => ⟨⟨by decide, by omega, by omega⟩, ?_⟩⟩
  rw [if_neg h5]
  have hsl : (b.take (2 + (b.getD 1 0 - 128)).toNat).drop 2 = (b.drop 2).take (b.getD 1 0 - 128).toNat := by
    rw [List.drop_take]
    congr 1
    omega
  rw [hsl]
  have hbl : Bys ((b.drop 2).take (b.getD 1 0 - 128).toNat) := bys_take (bys_drop hb 2) _
  have hll : ((b.drop 2).take (b.getD 1 0 - 128).toNat).length ≤ 3 := by rw [List.length_take]; omega
  generalize (b.drop 2).take (b.getD 1 0 - 128).toNat = l at hbl hll
  refine ⟨fun y _ => 0 ≤ y.1 ∧ y.1 ≤ l.length ∧ y.2.1 = numB (l.take y.1.toNat), fun y _ => ((l.length : Int) - y.1).toNat, ⟨Int.le_refl 0, by simp only; omega, rfl⟩, ?_⟩
  rintro ⟨i, n, _⟩ _ _ ⟨i0, i1, en⟩
  simp only at i0 i1 en ⊢
  refine ⟨fun hlt => ⟨⟨i0, hlt⟩, by decide, ?_⟩, fun hge => ?_⟩
  . have hnb := num_bound hbl (j := i.toNat) (by omega)
    rw [← en] at hnb
    rw [wrapK (i + 1) (by omega) (by omega), or8 (bys_get hbl _) hnb]
    refine ⟨⟨by omega, by omega, ?_⟩, by omega⟩
    rw [show (i + 1).toNat = i.toNat + 1 by omega, take_snoc l _ (by omega), num_snoc, en]
  . rw [List.take_of_length_le (by omega)] at en
    rw [en]
    exact ⟨fun h6 => by rw [if_pos h6], fun h6 => ⟨⟨by decide, by omega⟩, by rw [if_neg h6]⟩⟩
theorem h140 : c_der_head.ok Tryd.prog GL 140 := con_ok (H := {}) (mkEnv_ok (gl := GL) (l := [(135, conSem c_der_isTag)]) (q := []) (d := []) _ tyOk (by kernel_rfl) ⟨h135.call, trivial⟩ trivial trivial) (by kernel_rfl) (by kernel_rfl) (Eq.mp e140 k140)
def t99 : Prop :=
  ∀ (x : q4), (q89 x) -> lenB x.1 <= q69 -> q49 <= q46 /\ lenB x.1 <= q69 /\ (∀ (y : Int × Int × Int × Int × Unit), (wiZ y.1 /\ wiZ y.2.1 /\ wiZ y.2.2.1 /\ wiZ y.2.2.2.1 /\ True) -> (y.1,
  y.2.1, y.2.2.1, y.2.2.2.1) = headK x.1 -> (decide (q182 y) = true -> True) /\ (decide (q182 y) = true -> (decide (q182 y) == true) = true /\ True) /\ (decide (q182 y) = true -> True) /\
  (q115 y) /\ (decide (q182 y) = true -> True) /\ (q115 y) /\ (decide (q182 y) = true -> (decide (q182 y) == true) = true) /\ ((bif decide (q182 y) then decide (wrZ ((lnZ x.1) - y.2.1) <
  y.2.2.1) else false) = true -> (decide ((10 : Int) ≠ q25) = true -> ((q25, []), q25, (10 : Int)) = takeD x.1) /\ (decide ((10 : Int) ≠ q25) = false -> (q25 <= y.2.1 /\ y.2.1 <= wrZ (y.2.1 +
  y.2.2.1) /\ wrZ (y.2.1 + y.2.2.1) <= (lnZ x.1)) /\ lenB (List.drop (Int.toNat y.2.1) (List.take (Int.toNat (wrZ (y.2.1 + y.2.2.1))) x.1)) <= q69 /\ (∀ (y_1 : q4), (q89 y_1) -> y_1.1 =
  List.drop (Int.toNat y.2.1) (List.take (Int.toNat (wrZ (y.2.1 + y.2.2.1))) x.1) -> ((y.1, y_1.1), wrZ (y.2.1 + y.2.2.1), q25) = takeD x.1) /\ True)) /\ ((bif decide (q182 y) then decide
  (wrZ ((lnZ x.1) - y.2.1) < y.2.2.1) else false) = false -> (decide (y.2.2.2.1 ≠ q25) = true -> ((q25, []), q25, y.2.2.2.1) = takeD x.1) /\ (decide (y.2.2.2.1 ≠ q25) = false -> (q25 <= y.2.1
  /\ y.2.1 <= wrZ (y.2.1 + y.2.2.1) /\ wrZ (y.2.1 + y.2.2.1) <= (lnZ x.1)) /\ lenB (List.drop (Int.toNat y.2.1) (List.take (Int.toNat (wrZ (y.2.1 + y.2.2.1))) x.1)) <= q69 /\ (∀ (y_1 : q4),
  (q89 y_1) -> y_1.1 = List.drop (Int.toNat y.2.1) (List.take (Int.toNat (wrZ (y.2.1 + y.2.2.1))) x.1) -> ((y.1, y_1.1), wrZ (y.2.1 + y.2.2.1), q25) = takeD x.1) /\ True))) /\ True
theorem e99 : t99 = Con.vc c_der_Take GL (mkEnv ty [(140, conSem c_der_head), (119, conSem c_slices_Clone_byte_byte)] [] [] [0, 2, 3, 4, 5, 6, 7, 8, 25, 27]) {} Tryd.f99.ntmps Tryd.f99.results.toList (bodyOf Tryd.f99) := by kernel_rfl
theorem k99 : t99 := by
  unfold t99
  delta q4 q89 q69 q49 q46 wiZ q182 q115 wrZ lnZ q25 wyZ q229
  rintro ⟨b, _⟩ hx hp
  have hp : b.length ≤ 1000000000 := hp
  have hb : Bys b := sl_bys hx.1
  try dsimp +instances only [dft_int, dft_sl, dft_str]
  simp only [true_and, and_true, eq_self_iff_true, implies_true, reduceCtorEq, false_implies, true_implies, decide_eq_true_eq, decide_eq_false_iff_not, beq_self_eq_true, Bool.not_eq_true', ne_eq, Decidable.not_not, List.nil_append, List.length_singleton, List.length_cons, List.length_nil, Nat.zero_add, Nat.add_zero, Nat.mul_one, and_self, beq_iff_eq, Bool.not_true, Bool.not_false, Bool.not_eq_false', Bool.cond_false_right, Bool.and_eq_true, imp_self, Bool.not_eq_true, Bool.cond_true_left, Bool.or_eq_true]
  refine ⟨by decide, hp, ?_⟩
  rintro ⟨t, f, n, e, _⟩ _ eh
  simp only at eh ⊢
  have k1 : (headK b).1 = t := by rw [← eh]
  have k2 : (headK b).2.1 = f := by rw [← eh]
  have k3 : (headK b).2.2.1 = n := by rw [← eh]
  have k4 : (headK b).2.2.2 = e := by rw [← eh]
  have hT : takeD b = if e ≠ 0 then ((0, []), 0, e) else if (b.length : Int) - f < n then ((0, []), 0, 10) else ((t, (b.drop f.toNat).take n.toNat), f + n, 0) := by rw [takeD, k1, k2, k3, k4]
  have hok : e = 0 → 2 ≤ f ∧ f ≤ 5 ∧ f ≤ b.length ∧ 0 ≤ n ∧ n ≤ 16777215 := fun h => by
    have := head_ok hb (by rw [k4]; exact h)
    rw [k2, k3] at this
    exact ⟨this.1, this.2.1, this.2.2.1, this.2.2.2.1, this.2.2.2.2.1⟩
  refine ⟨fun h => ⟨fun _ => ?_, fun h10 => by cases h10⟩, fun h => ⟨fun he => by rw [hT, if_pos he], fun he => ?_⟩⟩
  . obtain ⟨h1, h2⟩ := h
    have := hok h1
    rw [wrapK _ (by omega) (by omega)] at h2
    rw [hT, if_neg (by omega), if_pos h2]
  . have hk := hok he
    simp only [Bool.and_eq_false_iff, decide_eq_false_iff_not] at h
    have h := h.resolve_left (fun h => h he)
    rw [wrapK _ (by omega) (by omega)] at h
    rw [wrapK (f + n) (by omega) (by omega)]
    refine ⟨⟨by omega, by omega, by omega⟩, by rw [lenB, List.length_drop, List.length_take]; omega, ?_⟩
    rintro ⟨c, _⟩ _ ec
    simp only at ec ⊢
    rw [hT, if_neg (by omega), if_neg h, ec, List.drop_take, show (f + n).toNat - f.toNat = n.toNat by omega]
theorem h99 : c_der_Take.ok Tryd.prog GL 99 := con_ok (H := {}) (mkEnv_ok (gl := GL) (l := [(140, conSem c_der_head), (119, conSem c_slices_Clone_byte_byte)]) (q := []) (d := []) _ tyOk (by kernel_rfl) ⟨h140.call, h119.call, trivial⟩ trivial trivial) (by kernel_rfl) (by kernel_rfl) (Eq.mp e99 k99)
def t43 : Prop :=
  ∀ (x : q4), (q89 x) -> lenB x.1 <= q69 -> q49 <= q46 /\ lenB x.1 <= q69 /\ (∀ (y : q20), (q116 y) -> (y.1, y.2.1, y.2.2.1) = takeD x.1 -> q49 <= q46 /\ (decide (y.2.2.1 = q25) = true ->
  True) /\ (decide (y.2.2.1 = q25) = true -> True) /\ (decide (y.2.2.1 = q25) = true -> (decide (y.2.2.1 = q25) == true) = true /\ True) /\ (decide (y.2.2.1 = q25) = true -> (decide (y.2.2.1
  = q25) == true) = true /\ (decide (y.2.2.1 = q25) == true) = true /\ True) /\ (decide (y.2.2.1 = q25) = true -> (decide (y.2.2.1 = q25) == true) = true) /\ ((bif decide (y.2.2.1 = q25) then
  decide (y.2.1 < (lnZ x.1)) else false) = true -> ((q25, []), (13 : Int)) = oneD x.1) /\ ((bif decide (y.2.2.1 = q25) then decide (y.2.1 < (lnZ x.1)) else false) = false -> ((y.1.1, y.1.2),
  y.2.2.1) = oneD x.1)) /\ True
theorem e43 : t43 = Con.vc c_der_One GL (mkEnv ty [(99, conSem c_der_Take)] [] [] [0, 2, 3, 4, 5, 6, 20]) {} Tryd.f43.ntmps Tryd.f43.results.toList (bodyOf Tryd.f43) := by kernel_rfl
theorem k43 : t43 := by
  unfold t43
  delta q4 q89 q69 q49 q46 q20 q116 q25 lnZ wyZ q186 wiZ q212 q233
  rintro ⟨b, _⟩ hx hp
  have hp : b.length ≤ 1000000000 := hp
  try dsimp +instances only [dft_int, dft_sl, dft_str]
  simp only [true_and, and_true, eq_self_iff_true, implies_true, reduceCtorEq, false_implies, true_implies, decide_eq_true_eq, decide_eq_false_iff_not, beq_self_eq_true, Bool.not_eq_true', ne_eq, Decidable.not_not, List.nil_append, List.length_singleton, List.length_cons, List.length_nil, Nat.zero_add, Nat.add_zero, Nat.mul_one, and_self, beq_iff_eq, Bool.not_true, Bool.not_false, Bool.not_eq_false', Bool.cond_false_right, Bool.and_eq_true, imp_self, Bool.not_eq_true, Bool.cond_true_left, Bool.or_eq_true]
  refine ⟨by decide, hp, ?_⟩
  rintro ⟨⟨t, c⟩, n, e, _⟩ _ eT
  simp only at eT ⊢
  refine ⟨by decide, fun h => ?_, fun h => ?_⟩
  . rw [oneD, ← eT, if_pos h]
  . rw [oneD, ← eT, if_neg (fun hh => by simp only [Bool.and_eq_false_iff, decide_eq_false_iff_not] at h; exact h.elim (fun h => h hh.1) (fun h => h hh.2))]
theorem h43 : c_der_One.ok Tryd.prog GL 43 := con_ok (H := {}) (mkEnv_ok (gl := GL) (l := [(99, conSem c_der_Take)]) (q := []) (d := []) _ tyOk (by kernel_rfl) ⟨h99.call, trivial⟩ trivial trivial) (by kernel_rfl) (by kernel_rfl) (Eq.mp e43 k43)
def t101 : Prop :=
  ∀ (x : q1), (q21 x) -> True -> (decide (x.1 < q25) = false -> True) /\ (decide (x.1 < q25) = false -> (decide (x.1 < q25) == false) = true /\ True) /\ (decide (x.1 < q25) = false -> (decide
  (x.1 < q25) == false) = true) /\ ((bif decide (x.1 < q25) then true else decide ((16777215 : Int) < x.1)) = true -> q25 = sizeD x.1) /\ ((bif decide (x.1 < q25) then true else decide
  ((16777215 : Int) < x.1)) = false -> (q25 <= x.1 /\ x.1 <= (16777215 : Int)) /\ (∀ (y : q4), (q89 y) -> y.1 = lngD x.1 -> wrZ (q47 + (lnZ y.1)) = sizeD x.1) /\ True)
theorem e101 : t101 = Con.vc c_der_Size GL (mkEnv ty [(136, conSem c_der_length)] [] [] [0, 2, 8]) {} Tryd.f101.ntmps Tryd.f101.results.toList (bodyOf Tryd.f101) := by kernel_rfl
theorem k101 : t101 := by
  unfold t101
  delta q1 q21 q25 q4 q89 wrZ q47 lnZ wiZ wyZ
  rintro ⟨n, _⟩ hx hp
  try dsimp +instances only [dft_int, dft_sl, dft_str]
  simp only [true_and, and_true, eq_self_iff_true, implies_true, reduceCtorEq, false_implies, true_implies, decide_eq_true_eq, decide_eq_false_iff_not, beq_self_eq_true, Bool.not_eq_true', ne_eq, Decidable.not_not, List.nil_append, List.length_singleton, List.length_cons, List.length_nil, Nat.zero_add, Nat.add_zero, Nat.mul_one, and_self, beq_iff_eq, Bool.not_true, Bool.not_false, Bool.not_eq_false', Bool.cond_false_right, Bool.and_eq_true, imp_self, Bool.not_eq_true, Bool.cond_true_left, Bool.or_eq_true]
  refine ⟨fun h => by rw [sizeD, if_pos h], fun h => ?_⟩
  simp only [Bool.or_eq_false_iff, decide_eq_false_iff_not] at h
  refine ⟨⟨by omega, by omega⟩, ?_⟩
  rintro ⟨l, _⟩ _ el
  simp only at el ⊢
  have := lng_len (n := n)
  rw [el, wrapK _ (by omega) (by omega), size_of (by omega) (by omega)]
theorem h101 : c_der_Size.ok Tryd.prog GL 101 := con_ok (H := {}) (mkEnv_ok (gl := GL) (l := [(136, conSem c_der_length)]) (q := []) (d := []) _ tyOk (by kernel_rfl) ⟨h136.call, trivial⟩ trivial trivial) (by kernel_rfl) (by kernel_rfl) (Eq.mp e101 k101)
noncomputable def i141 : CallSem → CallSem := vcSeq (mkEnv ty [(99, conSem c_der_Take)] [] [] [0, 1, 3, 4, 5, 6, 10, 27]) {} Tryd.f141.ntmps Tryd.f141.results.toList (bodyOf Tryd.f141)
theorem i141_ok : SeqOk Tryd.prog GL 141 i141 := seq_ok {} (mkEnv_ok (gl := GL) (l := [(99, conSem c_der_Take)]) (q := []) (d := []) _ tyOk (by kernel_rfl) ⟨h99.call, trivial⟩ trivial trivial) (by kernel_rfl) (by kernel_rfl)
noncomputable def i100 : CallSem := vcFn (mkEnv ty [(119, conSem c_slices_Clone_byte_byte)] [] [] [0, 2, 3]) {} Tryd.f100.ntmps Tryd.f100.results.toList (bodyOf Tryd.f100)
theorem i100_ok : CallOk Tryd.prog GL 100 i100 := inl_ok {} (mkEnv_ok (gl := GL) (l := [(119, conSem c_slices_Clone_byte_byte)]) (q := []) (d := []) _ tyOk (by kernel_rfl) ⟨h119.call, trivial⟩ trivial trivial) (by kernel_rfl) (by kernel_rfl)
def t44 : Prop :=
  ∀ (x : q4), (q89 x) -> lenB x.1 <= q69 -> q24 <= q46 /\ q24 <= q46 /\ lenB x.1 <= q69 /\ (∀ (y : q4), (q89 y) -> y.1 = x.1 -> q24 <= q46 /\ ∃ (I : Int × Unit -> Unit × (Int × Unit) × (List
  Int × Unit) × List q81 × Unit -> Prop), ∃ (μ : Int × Unit -> Unit × (Int × Unit) × (List Int × Unit) × List q81 × Unit -> Nat), (q25 = q25 /\ q25 = q25 /\ Value.slice none q48 q48 =
  Value.slice none q48 q48 /\ x.1 = x.1 /\ I (q25, ()) ((), (q25, ()), (y.1, ()), [], ())) /\ ∀ (y : q1) (z : Unit × (Int × Unit) × (List Int × Unit) × List q81 × Unit), (q21 y) -> True /\
  (wiZ z.2.1.1 /\ True) /\ (wyZ z.2.2.1.1 /\ True) /\ (Kd.wf q119 z.2.2.2.1 /\ True) -> I y z -> (decide (y.1 < (lnZ z.2.2.1.1)) = true -> (q25 <= y.1 /\ y.1 <= (lnZ z.2.2.1.1)) /\ lenB
  (List.drop (q23 y) z.2.2.1.1) <= q69 /\ (∀ (y_1 : q20), (q116 y_1) -> (y_1.1, y_1.2.1, y_1.2.2.1) = takeD (List.drop (q23 y) z.2.2.1.1) -> q49 <= q46 /\ (decide (y_1.2.2.1 ≠ q25) = false ->
  True) /\ (decide (y_1.2.2.1 ≠ q25) = false -> True) /\ (decide (y_1.2.2.1 ≠ q25) = false -> True) /\ (decide (y_1.2.2.1 ≠ q25) = false -> (decide (y_1.2.2.1 ≠ q25) == false) = true /\
  (decide (y_1.2.2.1 ≠ q25) == false) = true /\ (decide (y_1.2.2.1 ≠ q25) == false) = true /\ q49 <= q46 /\ q48 < q49 /\ (List.length z.2.2.2.1 + List.length [(y_1.1.1, y_1.1.2)]) * (32 :
  Nat) <= q64 /\ List.length z.2.2.2.1 + List.length [(y_1.1.1, y_1.1.2)] <= q63 /\ (((True /\ (∀ (y_2 : q1), (q21 y_2) -> y_2.1 = sizeD (lnZ y_1.1.2) -> (((((q25 = q25 /\ q25 = q25 /\
  Value.slice none q48 q48 = Value.slice none q48 q48 /\ x.1 = x.1 /\ I (wrZ (y.1 + y_1.2.1), ()) ((), (wrZ (q184 y y_2 y_1), ()), (z.2.2.1.1, ()), z.2.2.2.1 ++ [(y_1.1.1, y_1.1.2)], ()) /\ μ
  (wrZ (y.1 + y_1.2.1), ()) ((), (wrZ (q184 y y_2 y_1), ()), (z.2.2.1.1, ()), z.2.2.2.1 ++ [(y_1.1.1, y_1.1.2)], ()) < μ y z) /\ True) /\ True) /\ True) /\ True) /\ (((((q25 = q25 /\ q25 =
  q25 /\ Value.slice none q48 q48 = Value.slice none q48 q48 /\ x.1 = x.1 /\ I (wrZ (y.1 + y_1.2.1), ()) ((), (wrZ (q184 y y_2 y_1), ()), (z.2.2.1.1, ()), z.2.2.2.1 ++ [(y_1.1.1, y_1.1.2)],
  ()) /\ μ (wrZ (y.1 + y_1.2.1), ()) ((), (wrZ (q184 y y_2 y_1), ()), (z.2.2.1.1, ()), z.2.2.2.1 ++ [(y_1.1.1, y_1.1.2)], ()) < μ y z) /\ True) /\ True) /\ True) /\ ((((q25 = q25 /\ q25 = q25
  /\ Value.slice none q48 q48 = Value.slice none q48 q48 /\ x.1 = x.1 /\ I (wrZ (y.1 + y_1.2.1), ()) ((), (wrZ (q184 y y_2 y_1), ()), (z.2.2.1.1, ()), z.2.2.2.1 ++ [(y_1.1.1, y_1.1.2)], ())
  /\ μ (wrZ (y.1 + y_1.2.1), ()) ((), (wrZ (q184 y y_2 y_1), ()), (z.2.2.1.1, ()), z.2.2.2.1 ++ [(y_1.1.1, y_1.1.2)], ()) < μ y z) /\ True) /\ True) /\ True) /\ True) /\ True) /\ True) /\
  ((True /\ (∀ (y_2 : q1), (wiZ y_2.1 /\ True) -> y_2.1 = sizeD (lnZ y_1.1.2) -> ((((q172 = q172 /\ q172 = q172 /\ Value.slice none q185 q185 = Value.slice none q185 q185 /\ x.1 = x.1 /\ I
  (wrZ (y.1 + y_1.2.1), ()) ((), (wrZ (q184 y y_2 y_1), ()), (z.2.2.1.1, ()), z.2.2.2.1 ++ [(y_1.1.1, y_1.1.2)], ()) /\ μ (wrZ (y.1 + y_1.2.1), ()) ((), (wrZ (q184 y y_2 y_1), ()),
  (z.2.2.1.1, ()), z.2.2.2.1 ++ [(y_1.1.1, y_1.1.2)], ()) < μ y z) /\ True) /\ True) /\ True) /\ ((((q172 = q172 /\ q172 = q172 /\ Value.slice none q185 q185 = Value.slice none q185 q185 /\
  x.1 = x.1 /\ I (wrZ (y.1 + y_1.2.1), ()) ((), (wrZ (q184 y y_2 y_1), ()), (z.2.2.1.1, ()), z.2.2.2.1 ++ [(y_1.1.1, y_1.1.2)], ()) /\ μ (wrZ (y.1 + y_1.2.1), ()) ((), (wrZ (q184 y y_2 y_1),
  ()), (z.2.2.1.1, ()), z.2.2.2.1 ++ [(y_1.1.1, y_1.1.2)], ()) < μ y z) /\ True) /\ True) /\ True) /\ True) /\ True) /\ (q183 y_1 x I y z μ) /\ True) /\ True) /\ (q117 y_1 x I y z μ) /\ True)
  /\ ((q117 y_1 x I y z μ) /\ (((q183 y_1 x I y z μ) /\ True) /\ True) /\ True) /\ True) /\ (decide (y_1.2.2.1 ≠ q25) = !false -> (decide (z.2.1.1 = (lnZ x.1)) = true -> (z.2.2.2.1, z.2.1.1,
  q25) = allD x.1) /\ (q118 z x))) /\ True) /\ (decide (y.1 < (lnZ z.2.2.1.1)) = false -> (decide (z.2.1.1 = (lnZ x.1)) = true -> (z.2.2.2.1, z.2.1.1, q25) = allD x.1) /\ (q118 z x))) /\ True
theorem e44 : t44 = Con.vc c_der_All GL (mkEnv ty [(100, i100), (99, conSem c_der_Take), (101, conSem c_der_Size)] [(141, i141)] [] [0, 2, 3, 4, 5, 6, 7, 8, 11, 13, 14, 15, 33]) {} Tryd.f44.ntmps Tryd.f44.results.toList (bodyOf Tryd.f44) := by kernel_rfl
theorem k44 : t44 := by
  unfold t44
  delta q4 q89 q69 q24 q46 q81 q25 q48 q1 q21 wiZ wyZ q119 lnZ q23 q20 q116 q49 q64 q63 wrZ q184 q172 q185 q183 q117 q118 q186 q229 q206 q212 q233
  rintro ⟨b, _⟩ hx hp
  have hp : b.length ≤ 1000000000 := hp
  have hb : Bys b := sl_bys hx.1
  try dsimp +instances only [dft_int, dft_sl, dft_str]
  simp only [true_and, and_true, eq_self_iff_true, implies_true, reduceCtorEq, false_implies, true_implies, decide_eq_true_eq, decide_eq_false_iff_not, beq_self_eq_true, Bool.not_eq_true', ne_eq, Decidable.not_not, List.nil_append, List.length_singleton, List.length_cons, List.length_nil, Nat.zero_add, Nat.add_zero, Nat.mul_one, and_self, beq_iff_eq, Bool.not_true, Bool.not_false, Bool.not_eq_false', Bool.cond_false_right, Bool.and_eq_true, imp_self, Bool.not_eq_true, Bool.cond_true_left, Bool.or_eq_true]
  refine ⟨by decide, by decide, hp, ?_⟩
  rintro ⟨b1, _⟩ _ eb
  have eb : b1 = b := eb
  subst eb
  refine ⟨by decide, fun y z => z.2.2.1.1 = b1 ∧ 0 ≤ y.1 ∧ y.1 ≤ b1.length ∧ z.2.1.1 = y.1 ∧ (z.2.2.2.1 : List EltT).length ≤ y.1 ∧ ∃ (k : Nat) (pre : List (Int × EltT)), (b1.length : Int) - y.1 ≤ k ∧ rowD b1 = (pre ++ (rowR b1 k y.1).1, (rowR b1 k y.1).2) ∧ z.2.2.2.1 = pre.map (·.2), fun y _ => ((b1.length : Int) - y.1).toNat, ⟨rfl, Int.le_refl 0, by simp only; omega, rfl, by simp, b1.length, [], by simp only; omega, rfl, rfl⟩, ?_⟩
  rintro ⟨i, _⟩ ⟨_, ⟨en, _⟩, ⟨own, _⟩, out, _⟩ _ _ ⟨eo, i0, i1, ee, hl, k, pre, hk, hr, eout⟩
  simp only at eo i0 i1 ee hl hk hr eout ⊢
  subst eo ee
  refine ⟨fun hlt => ⟨⟨i0, by omega⟩, by rw [lenB, List.length_drop]; omega, ?_⟩, fun hge => ⟨fun h => ?_, fun h => absurd (by omega) h⟩⟩
  . rintro ⟨x, n, e, _⟩ _ eT
    simp only at eT ⊢
    obtain ⟨m, rfl⟩ : ∃ m, k = m + 1 := ⟨k - 1, by omega⟩
    have hbd : Bys (own.drop en.toNat) := bys_drop hb _
    refine ⟨by decide, fun he => ?_, fun he => ⟨fun h => by omega, fun h => ⟨⟨i0, i1⟩, by rw [lenB, List.length_drop]; omega, ?_⟩⟩⟩
    . subst he
      have ok : (takeD (own.drop en.toNat)).2.2 = 0 := by rw [← eT]
      have h1 := take_inv hbd ok
      have h2 := take_ok hbd ok
      rw [row_step own m en hlt ok] at hr
      rw [← eT] at h1 h2 hr
      simp only at h1 h2 hr
      rw [List.length_drop] at h2
      have hpl := put_len x
      have hll := lng_len (n := (x.2.length : Int))
      refine ⟨by trivial, by trivial, by trivial, by decide, by decide, by omega, by omega, ?_⟩
      rintro ⟨z, _⟩ _ ez
      simp only at ez ⊢
      rw [size_of (by omega) (by omega)] at ez
      rw [wrapK (en + n) (by omega) (by omega), wrapK (en + z) (by omega) (by omega), wrapK (en + z + (x.2.length : Int)) (by omega) (by omega)]
      refine ⟨⟨by trivial, by omega, by omega, by omega, by rw [List.length_append, List.length_singleton]; omega, m, pre ++ [(en, x)], by omega, ?_, ?_⟩, by omega⟩
      . rw [hr]; simp
      . rw [eout]; simp
    . rintro ⟨x2, n2, e2, _⟩ _ eT2
      simp only at eT2 ⊢
      have he2 : e2 = e := by
        have := eT.trans eT2.symm
        simp only [Prod.mk.injEq] at this
        exact this.2.2.symm
      have bad : (takeD (own.drop en.toNat)).2.2 ≠ 0 := by rw [← eT]; exact he
      rw [row_bad own m en hlt bad, ← eT] at hr
      refine ⟨by decide, ?_⟩
      rw [allD, hr, he2]
      simp only
      rw [if_pos he]
  . rw [row_end own k en hge] at hr
    rw [allD, hr]
    simp only
    rw [if_neg (by simp), List.append_nil, eout]
theorem h44 : c_der_All.ok Tryd.prog GL 44 := con_ok (H := {}) (mkEnv_ok (gl := GL) (l := [(100, i100), (99, conSem c_der_Take), (101, conSem c_der_Size)]) (q := [(141, i141)]) (d := []) _ tyOk (by kernel_rfl) ⟨i100_ok, h99.call, h101.call, trivial⟩ ⟨i141_ok, trivial⟩ trivial) (by kernel_rfl) (by kernel_rfl) (Eq.mp e44 k44)
end Go.Proofs.YtbdfeddakniaeaaDoor
end
section
namespace Go.Proofs.YtbdfeddakniaeaaDoor
open Go Go.Vc Go.Pl Go.Proofs
end Go.Proofs.YtbdfeddakniaeaaDoor
end
section
namespace Go.Proofs.YtbdfeddakniaeaaDoor
open Go Go.Vc Go.Pl Go.Proofs
set_option linter.unusedVariables false
set_option linter.unusedSimpArgs false
set_option maxRecDepth 20000
end Go.Proofs.YtbdfeddakniaeaaDoor
end
section
namespace Go.Proofs.YtbdfeddakniaeaaDoor
open Go Go.Vc Go.Pl Go.Proofs
def c_oid_May : Con := { args := [.dat (.sl I64)], res := [.dat .bool], pre := fun _ => True, post := fun x y => y.1 = mayO x.1 }
def c_oid_number : Con := { args := [.own 5 U8, .dat I64], res := [.own 5 U8], pre := fun x => lenI x.1 ≤ 1000 ∧ 0 ≤ x.2.1 ∧ x.2.1 ≤ 2147483647, post := fun x y => y.1 = x.1 ++ numO x.2.1 }
def c_oid_Encode : Con := { args := [.dat (.sl I64)], res := [.own 5 U8, .dat I64], pre := fun _ => True, post := fun x y => (y.1, y.2.1) = EncO x.1 }
end Go.Proofs.YtbdfeddakniaeaaDoor
end
section
namespace Go.Proofs.YtbdfeddakniaeaaDoor
open Go Go.Vc Go.Pl Go.Proofs
set_option linter.unusedVariables false
set_option linter.unusedSimpArgs false
abbrev q207 := (Kd.dft q212)
abbrev q120 (p0 : q4) (p1 : q8) := (bif decide (List.getD p0.1 (Int.toNat p1.1) q207 < q172) then true else decide ((2147483647 : Int) < List.getD p0.1 (Int.toNat p1.1) q207))
abbrev q121 (p0 : q4) (p1 : q8) := (List.getD p0.1 (Int.toNat p1.1) q207 < q172)
abbrev q122 := (Kd.dft q212)
abbrev q123 := (Kd.sl q212)
abbrev q124 (p0 : q0) (p1 : q1) := (↑(BitVec.toNat (BitVec.ofInt (8 : Nat) (IntKind.wrap IntKind.u8 (Int.fdiv p0.2.1 (q181 ^ min (Int.toNat p1.1) (64 : Nat)))) ||| BitVec.ofInt (8 : Nat)
  q166)) : Int)
abbrev q125 (p0 : q0) := (↑(BitVec.toNat (BitVec.ofInt (8 : Nat) (IntKind.wrap IntKind.u8 p0.2.1) &&& BitVec.ofInt (8 : Nat) (127 : Int))) : Int)
abbrev q126 (p0 : q4) := (wrZ ((40 : Int) * List.getD p0.1 q185 q207) + List.getD p0.1 (1 : Nat) q207)
abbrev q127 (p0 : q4) := (lnZ (List.drop (2 : Nat) p0.1))
def t91 : Prop :=
  ∀ (x : q4), (Kd.wf q123 x.1 /\ True) -> True -> (decide ((lnZ x.1) < q50) = false -> True) /\ (decide ((lnZ x.1) < q50) = false -> (decide ((lnZ x.1) < q50) == false) = true /\ True) /\
  (decide ((lnZ x.1) < q50) = false -> (decide ((lnZ x.1) < q50) == false) = true /\ True) /\ (decide ((lnZ x.1) < q50) = false -> (decide ((lnZ x.1) < q50) == false) = true) /\ ((bif decide
  ((lnZ x.1) < q50) then true else decide ((20 : Int) < (lnZ x.1))) = true -> false = mayO x.1) /\ ((bif decide ((lnZ x.1) < q50) then true else decide ((20 : Int) < (lnZ x.1))) = false -> ∃
  (I : q6), ∃ (μ : q7), ((lnZ x.1) = (lnZ x.1) /\ x.1 = x.1 /\ Value.bool false = Value.bool false /\ x.1 = x.1 /\ I (q25, false, ()) ()) /\ ∀ (y : q8) (z : Unit), (q56 y) -> True -> I y z ->
  (decide (y.1 < (lnZ x.1)) = true -> (q25 <= y.1 /\ y.1 < (lnZ x.1)) /\ (decide (q121 x y) = false -> True) /\ (decide (q121 x y) = false -> (decide (q121 x y) == false) = true /\ True) /\
  (decide (q121 x y) = false -> (decide (q121 x y) == false) = true) /\ ((q120 x y) = true -> false = mayO x.1) /\ ((q120 x y) = false -> (lnZ x.1) = (lnZ x.1) /\ x.1 = x.1 /\ Value.bool
  false = Value.bool false /\ x.1 = x.1 /\ I (wrZ (y.1 + q47), y.2.1, ()) () /\ μ (wrZ (y.1 + q47), y.2.1, ()) () < μ y z)) /\ (decide (y.1 < (lnZ x.1)) = false -> (q42 x) /\ (decide
  (List.getD x.1 q48 q122 = q25) = true -> (q43 x) /\ decide (List.getD x.1 q24 q122 < (40 : Int)) = mayO x.1) /\ (decide (List.getD x.1 q48 q122 = q25) = false -> (decide (List.getD x.1 q48
  q122 = q47) = true -> (q43 x) /\ decide (List.getD x.1 q24 q122 < (40 : Int)) = mayO x.1) /\ (decide (List.getD x.1 q48 q122 = q47) = false -> (decide (List.getD x.1 q48 q122 = q50) = true
  -> (q43 x) /\ decide (List.getD x.1 q24 q122 <= (2147483567 : Int)) = mayO x.1) /\ (decide (List.getD x.1 q48 q122 = q50) = false -> false = mayO x.1)))))
theorem e91 : t91 = Con.vc c_oid_May GL (mkEnv ty [] [] [] [0, 2, 4, 12, 13, 14, 15, 16, 24, 28, 29, 36]) {} Tryd.f91.ntmps Tryd.f91.results.toList (bodyOf Tryd.f91) := by kernel_rfl
theorem k91 : t91 := by
  unfold t91
  delta q4 q123 lnZ q50 q6 q7 q25 q8 q56 q121 q120 wrZ q47 q42 q48 q122 q43 q24 q212 wiZ wbZ q207 q172
  rintro ⟨l, _⟩ hx hp
  try dsimp +instances only [dft_int, dft_sl, dft_str]
  simp only [true_and, and_true, eq_self_iff_true, implies_true, reduceCtorEq, false_implies, true_implies, decide_eq_true_eq, decide_eq_false_iff_not, beq_self_eq_true, Bool.not_eq_true', ne_eq, Decidable.not_not, List.nil_append, List.length_singleton, List.length_cons, List.length_nil, Nat.zero_add, Nat.add_zero, Nat.mul_one, and_self, beq_iff_eq, Bool.not_true, Bool.not_false, Bool.not_eq_false', Bool.cond_false_right, Bool.and_eq_true, imp_self, Bool.not_eq_true, Bool.cond_true_left, Bool.or_eq_true]
  refine ⟨fun h => (may_len h).symm, fun h => ?_⟩
  simp only [Bool.or_eq_false_iff, decide_eq_false_iff_not] at h
  refine ⟨fun y _ => 0 ≤ y.1 ∧ y.1 ≤ l.length ∧ ∀ j, j < y.1.toNat → 0 ≤ l.getD j 0 ∧ l.getD j 0 ≤ 2147483647, fun y _ => ((l.length : Int) - y.1).toNat, ⟨Int.le_refl 0, by simp only; omega, fun j hj => by simp at hj⟩, ?_⟩
  rintro ⟨i, b, _⟩ _ _ ⟨i0, i1, i2⟩
  simp only at i0 i1 i2 ⊢
  have hw1 : IntKind.wrap .i64 (i + 1) = i + 1 := wrapK _ (by omega) (by omega)
  rw [hw1]
  refine ⟨fun hlt => ⟨⟨i0, hlt⟩, fun hb => (may_in (by omega) hb).symm, fun hg => ⟨⟨by omega, by omega, fun j hj => ?_⟩, by omega⟩⟩, fun hge => ?_⟩
  . simp only [Bool.or_eq_false_iff, decide_eq_false_iff_not] at hg
    by_cases hji : j < i.toNat
    . exact i2 j hji
    . rw [show j = i.toNat by omega]; omega
  . have hr := may_rest (l := l) (by omega) (by omega) (fun j hj => i2 j (by omega))
    have h0 := i2 0 (by omega)
    rw [hr]
    refine ⟨⟨by omega, by omega⟩, fun e => ⟨⟨by omega, by omega⟩, by rw [if_pos (by omega)]⟩, fun e0 => ⟨fun e => ⟨⟨by omega, by omega⟩, by rw [if_pos (by omega)]⟩, fun e1 => ⟨fun e => ⟨⟨by omega, by omega⟩, by rw [if_neg (by omega), if_pos e]⟩, fun e2 => by rw [if_neg (by omega), if_neg e2]⟩⟩⟩
theorem h91 : c_oid_May.ok Tryd.prog GL 91 := con_ok (H := {}) (mkEnv_ok (gl := GL) (l := []) (q := []) (d := []) _ tyOk (by kernel_rfl) trivial trivial trivial) (by kernel_rfl) (by kernel_rfl) (Eq.mp e91 k91)
def t92 : Prop :=
  ∀ (x : q0), (wyZ x.1 /\ wiZ x.2.1 /\ True) -> lenI x.1 <= (1000 : Nat) /\ q25 <= x.2.1 /\ x.2.1 <= (2147483647 : Int) -> ∃ (I : Int × Unit -> Unit -> Prop), ∃ (μ : Int × Unit -> Unit ->
  Nat), (Value.slice none q48 q48 = Value.slice none q48 q48 /\ x.2.1 = x.2.1 /\ x.1 = x.1 /\ I (q25, ()) ()) /\ ∀ (y : q1) (z : Unit), (q21 y) -> True -> I y z -> q25 <= y.1 /\ (decide ((127
  : Int) < Int.fdiv x.2.1 (q181 ^ min (Int.toNat y.1) (64 : Nat))) = true -> Value.slice none q48 q48 = Value.slice none q48 q48 /\ x.2.1 = x.2.1 /\ x.1 = x.1 /\ I (wrZ (y.1 + (7 : Int)), ())
  () /\ μ (wrZ (y.1 + (7 : Int)), ()) () < μ y z) /\ (decide ((127 : Int) < Int.fdiv x.2.1 (q181 ^ min (Int.toNat y.1) (64 : Nat))) = false -> ∃ (I : q18), ∃ (μ : q19), (Value.bool false =
  Value.bool false /\ Value.slice none q48 q48 = Value.slice none q48 q48 /\ x.2.1 = x.2.1 /\ I (y.1, ()) (x.1, ())) /\ ∀ (y : q1) (z : q4), (q21 y) -> (q89 z) -> I y z -> (decide (q66 y) =
  true -> q25 <= y.1 /\ q48 < q24 /\ (List.length z.1 + List.length [IntKind.wrap IntKind.u8 (q124 x y)]) * q24 <= q64 /\ List.length z.1 + List.length [IntKind.wrap IntKind.u8 (q124 x y)] <=
  q63 /\ Value.bool false = Value.bool false /\ Value.slice none q48 q48 = Value.slice none q48 q48 /\ x.2.1 = x.2.1 /\ I (wrZ (y.1 - (7 : Int)), ()) (z.1 ++ [IntKind.wrap IntKind.u8 (q124 x
  y)], ()) /\ μ (wrZ (y.1 - (7 : Int)), ()) (z.1 ++ [IntKind.wrap IntKind.u8 (q124 x y)], ()) < μ y z) /\ (decide (q66 y) = false -> q48 < q24 /\ (List.length z.1 + List.length [IntKind.wrap
  IntKind.u8 (q125 x)]) * q24 <= q64 /\ List.length z.1 + List.length [IntKind.wrap IntKind.u8 (q125 x)] <= q63 /\ z.1 ++ [IntKind.wrap IntKind.u8 (q125 x)] = x.1 ++ numO x.2.1))
theorem e92 : t92 = Con.vc c_oid_number GL (mkEnv ty [] [] [] [0, 1, 4, 5, 9, 13]) {} Tryd.f92.ntmps Tryd.f92.results.toList (bodyOf Tryd.f92) := by kernel_rfl
theorem k92 : t92 := by
  unfold t92
  delta q0 wyZ wiZ q25 q48 q1 q21 q181 wrZ q18 q19 q4 q89 q66 q24 q124 q64 q63 q125 q172 q166
  rintro ⟨b, n, _⟩ hx hp
  obtain ⟨p0, p1, p2⟩ := hp
  simp only at p0 p1 p2
  have p0 : b.length ≤ 1000 := p0
  have h4 := small4 p2
  try dsimp +instances only [dft_int, dft_sl, dft_str]
  simp only [true_and, and_true, eq_self_iff_true, implies_true, reduceCtorEq, false_implies, true_implies, decide_eq_true_eq, decide_eq_false_iff_not, beq_self_eq_true, Bool.not_eq_true', ne_eq, Decidable.not_not, List.nil_append, List.length_singleton, List.length_cons, List.length_nil, Nat.zero_add, Nat.add_zero, Nat.mul_one, and_self, beq_iff_eq, Bool.not_true, Bool.not_false, Bool.not_eq_false', Bool.cond_false_right, Bool.and_eq_true, imp_self, Bool.not_eq_true, Bool.cond_true_left, Bool.or_eq_true]
  refine ⟨fun y _ => ∃ k : Nat, k ≤ 4 ∧ y.1 = 7 * (k : Int) ∧ (0 < k → 0 < n / 128 ^ k), fun y _ => (28 - y.1).toNat, ⟨0, by omega, rfl, fun h => absurd h (by omega)⟩, ?_⟩
  rintro ⟨y, _⟩ _ _ ⟨k, k4, rfl, hk⟩
  simp only
  rw [shift_div n k p1 k4]
  refine ⟨by omega, fun hlt => ?_, fun hge => ?_⟩
  . have : k < 4 := by
      rcases Nat.lt_or_ge k 4 with h | h
      . exact h
      . rw [show k = 4 by omega] at hlt; omega
    rw [show IntKind.wrap .i64 (7 * (k : Int) + 7) = 7 * ((k + 1 : Nat) : Int) by rw [wrapK _ (by omega) (by omega)]; omega]
    refine ⟨⟨k + 1, by omega, rfl, fun _ => ?_⟩, by omega⟩
    rw [pow_div n k k4]
    omega
  . have hN : hiN n = k := hi_is p1 k4 (by omega) hk
    refine ⟨fun y z => ∃ j : Nat, j ≤ k ∧ y.1 = 7 * (j : Int) ∧ z.1 ++ hiD j n = b ++ hiD k n, fun y _ => y.1.toNat, ⟨k, Nat.le_refl k, rfl, rfl⟩, ?_⟩
    rintro ⟨y, _⟩ ⟨z, _⟩ _ _ ⟨j, jk, rfl, hz⟩
    simp only at hz ⊢
    have hl : z.length + j = b.length + k := by
      have := congrArg List.length hz
      rwa [List.length_append, List.length_append, hi_length, hi_length] at this
    refine ⟨fun hj => ?_, fun hj => ?_⟩
    . obtain ⟨i, rfl⟩ : ∃ i, j = i + 1 := ⟨j - 1, by omega⟩
      rw [shift_div n (i + 1) p1 (by omega), or128, show IntKind.wrap .i64 (7 * ((i + 1 : Nat) : Int) - 7) = 7 * (i : Int) by rw [wrapK _ (by omega) (by omega)]; omega]
      refine ⟨by omega, by decide, by omega, by omega, ⟨i, by omega, rfl, ?_⟩, by omega⟩
      rw [List.append_assoc]
      exact hz
    . have : j = 0 := by omega
      subst this
      rw [and127]
      refine ⟨by decide, by omega, by omega, ?_⟩
      rw [numO, hN, ← List.append_assoc, ← hz]
      simp [hiD]
theorem h92 : c_oid_number.ok Tryd.prog GL 92 := con_ok (H := {}) (mkEnv_ok (gl := GL) (l := []) (q := []) (d := []) _ tyOk (by kernel_rfl) trivial trivial trivial) (by kernel_rfl) (by kernel_rfl) (Eq.mp e92 k92)
def t37 : Prop :=
  ∀ (x : q4), (Kd.wf q123 x.1 /\ True) -> True -> True /\ (∀ (y : q9), (q57 y) -> y.1 = mayO x.1 -> ((!y.1) = true -> ([], q50) = EncO x.1) /\ ((!y.1) = false -> (q42 x) /\ (q43 x) /\ (lenI
  [] <= (1000 : Nat) /\ q25 <= wrZ (q126 x) /\ wrZ (q126 x) <= (2147483647 : Int)) /\ (∀ (y : q4), (q89 y) -> y.1 = [] ++ numO (wrZ (q126 x)) -> (q25 <= q50 /\ q50 <= (lnZ x.1)) /\ ∃ (I :
  q18), ∃ (μ : q19), ((q127 x) = (q127 x) /\ List.drop q49 x.1 = List.drop q49 x.1 /\ Value.bool false = Value.bool false /\ q25 = q25 /\ Value.slice none q48 q48 = Value.slice none q48 q48
  /\ x.1 = x.1 /\ I (q25, ()) (y.1, ())) /\ ∀ (y : q1) (z : q4), (q21 y) -> (q89 z) -> I y z -> (decide (y.1 < (q127 x)) = true -> (q25 <= y.1 /\ y.1 < (q127 x)) /\ (lenI z.1 <= (1000 : Nat)
  /\ q25 <= List.getD (List.drop (2 : Nat) x.1) (q23 y) q122 /\ List.getD (List.drop (2 : Nat) x.1) (q23 y) q122 <= (2147483647 : Int)) /\ (∀ (y_1 : q4), (q89 y_1) -> y_1.1 = z.1 ++ numO
  (List.getD (List.drop (2 : Nat) x.1) (q23 y) q122) -> (q127 x) = (q127 x) /\ List.drop q49 x.1 = List.drop q49 x.1 /\ Value.bool false = Value.bool false /\ q25 = q25 /\ Value.slice none
  q48 q48 = Value.slice none q48 q48 /\ x.1 = x.1 /\ I (wrZ (q167 y), ()) (y_1.1, ()) /\ μ (wrZ (q167 y), ()) (y_1.1, ()) < μ y z) /\ True) /\ (decide (y.1 < (q127 x)) = false -> (z.1, q25) =
  EncO x.1)) /\ True)) /\ True
theorem e37 : t37 = Con.vc c_oid_Encode GL (mkEnv ty [(91, conSem c_oid_May), (92, conSem c_oid_number)] [] [] [0, 2, 3, 4, 6, 9, 20, 21, 22, 23]) {} Tryd.f37.ntmps Tryd.f37.results.toList (bodyOf Tryd.f37) := by kernel_rfl
theorem k37 : t37 := by
  unfold t37
  delta q4 q123 q9 q57 q50 q42 q43 q25 wrZ q126 q89 lnZ q18 q19 q127 q49 q48 q1 q21 q23 q122 q167 q212 wbZ q172 q185 q207 wyZ wiZ
  rintro ⟨l, _⟩ hx hp
  try dsimp +instances only [dft_int, dft_sl, dft_str]
  simp only [true_and, and_true, eq_self_iff_true, implies_true, reduceCtorEq, false_implies, true_implies, decide_eq_true_eq, decide_eq_false_iff_not, beq_self_eq_true, Bool.not_eq_true', ne_eq, Decidable.not_not, List.nil_append, List.length_singleton, List.length_cons, List.length_nil, Nat.zero_add, Nat.add_zero, Nat.mul_one, and_self, beq_iff_eq, Bool.not_true, Bool.not_false, Bool.not_eq_false', Bool.cond_false_right, Bool.and_eq_true, imp_self, Bool.not_eq_true, Bool.cond_true_left, Bool.or_eq_true]
  simp only [all_bool]
  refine ⟨fun h => by rw [EncO, h]; rfl, fun h => ?_⟩
  obtain ⟨h1, h2, h3, h4, h5⟩ := may_args h
  have hg : ∀ i, i < l.length → 0 ≤ l.getD i 0 ∧ l.getD i 0 ≤ 2147483647 := fun i hi => h3 _ (by
    rw [List.getD_eq_getElem?_getD, List.getElem?_eq_getElem hi]
    exact List.getElem_mem _)
  have g0 := hg 0 (by omega)
  have g1 := hg 1 (by omega)
  rw [wrapK (40 * l.getD 0 0) (by omega) (by omega), wrapK (40 * l.getD 0 0 + l.getD 1 0) (by omega) (by omega)]
  refine ⟨⟨by omega, by omega⟩, ⟨by omega, by omega⟩, ⟨by decide, h4, h5⟩, ?_⟩
  rintro ⟨a, _⟩ _ ea
  simp only at ea ⊢
  have hdl : (List.drop 2 l).length = l.length - 2 := List.length_drop
  have hdg : ∀ i : Nat, (List.drop 2 l).getD i 0 = l.getD (i + 2) 0 := fun i => by
    rw [List.getD_eq_getElem?_getD, List.getElem?_drop, ← List.getD_eq_getElem?_getD, Nat.add_comm]
  rw [hdl]
  refine ⟨⟨by omega, by omega⟩, fun y z => 0 ≤ y.1 ∧ y.1 ≤ (l.length : Int) - 2 ∧ z.1 = encP l (y.1.toNat + 2), fun y _ => ((l.length : Int) - y.1).toNat, ⟨Int.le_refl 0, by simp only; omega, by rw [ea]; exact (encP_two l).symm⟩, ?_⟩
  rintro ⟨i, _⟩ ⟨z, _⟩ _ _ ⟨i0, i1, ez⟩
  simp only at i0 i1 ez ⊢
  have hw1 : IntKind.wrap .i64 (i + 1) = i + 1 := wrapK _ (by omega) (by omega)
  rw [hw1, hdg]
  refine ⟨fun hlt => ⟨⟨by omega, hlt⟩, ⟨?_, hg (i.toNat + 2) (by omega)⟩, ?_⟩, fun hge => ?_⟩
  . have l1 := encP_len l (i.toNat + 2)
    rw [← ez] at l1
    show z.length ≤ 1000
    omega
  . rintro ⟨c, _⟩ _ ec
    simp only at ec ⊢
    refine ⟨⟨by omega, by omega, ?_⟩, by omega⟩
    rw [show (i + 1).toNat + 2 = i.toNat + 2 + 1 by omega, encP_step (by omega) (by omega), ec, ez]
  . rw [EncO, h, if_pos rfl, ez, encP_all (by omega)]
theorem h37 : c_oid_Encode.ok Tryd.prog GL 37 := con_ok (H := {}) (mkEnv_ok (gl := GL) (l := [(91, conSem c_oid_May), (92, conSem c_oid_number)]) (q := []) (d := []) _ tyOk (by kernel_rfl) ⟨h91.call, h92.call, trivial⟩ trivial trivial) (by kernel_rfl) (by kernel_rfl) (Eq.mp e37 k37)
end Go.Proofs.YtbdfeddakniaeaaDoor
end
