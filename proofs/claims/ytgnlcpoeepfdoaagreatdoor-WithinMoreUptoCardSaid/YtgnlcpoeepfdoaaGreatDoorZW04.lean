/- Texts of a verified walk, led together: DerA, DerW, DerrA, DerrW, OidA, OidW. -/
import Derived.Test.YtgnlcpoeepfdoaaGreatDoorZW03
import Derived.Test.YtgnlcpoeepfdoaaGreatDoorZV09
import Derived.Test.YtgnlcpoeepfdoaaGreatDoorZV08
set_option linter.unusedVariables false
set_option linter.unusedSimpArgs false
section
namespace Go.Proofs.YtgnlcpoeepfdoaaGreatDoor
open Go Go.Vc Go.Pl Go.Proofs
def c_der_isTag : Con := { args := [.dat I64], res := [.dat .bool], pre := fun _ => True, post := fun x y => y.1 = isTagD x.1 }
def c_der_length : Con := { args := [.dat I64], res := [.own 5 U8], pre := fun x => 0 ≤ x.1 ∧ x.1 ≤ 16777215, post := fun x y => y.1 = lngD x.1 }
def c_slices_Clone_byte_byte : Con := { args := [.dat BY], res := [.dat BY], pre := fun x => lenB x.1 ≤ 1000000000, post := fun x y => y.1 = x.1 }
def c_der_head : Con := { args := [.dat BY], res := [.dat I64, .dat I64, .dat I64, .dat I64], pre := fun x => lenB x.1 ≤ 1000000000, post := fun x y => (y.1, y.2.1, y.2.2.1, y.2.2.2.1) = headK x.1 }
def c_der_Take : Con := { args := [.dat BY], res := [.dat ET, .dat I64, .dat I64], pre := fun x => lenB x.1 ≤ 1000000000, post := fun x y => (y.1, y.2.1, y.2.2.1) = takeD x.1 }
def c_der_One : Con := { args := [.dat BY], res := [.dat ET, .dat I64], pre := fun x => lenB x.1 ≤ 1000000000, post := fun x y => (y.1, y.2.1) = oneD x.1 }
def c_der_Size : Con := { args := [.dat I64], res := [.dat I64], pre := fun _ => True, post := fun x y => y.1 = sizeD x.1 }
def c_der_All : Con := { args := [.dat BY], res := [.own 129 ET, .dat I64, .dat I64], pre := fun x => lenB x.1 ≤ 1000000000, post := fun x y => (y.1, y.2.1, y.2.2.1) = allD x.1 }
end Go.Proofs.YtgnlcpoeepfdoaaGreatDoor
end
section
namespace Go.Proofs.YtgnlcpoeepfdoaaGreatDoor
open Go Go.Vc Go.Pl Go.Proofs
set_option linter.unusedVariables false
set_option linter.unusedSimpArgs false
abbrev q16 := ((Int × List Int) × Int × Int × Unit)
abbrev q246 (p0 : q1) := (bif decide (q308 <= p0.1) then decide (p0.1 <= (255 : Int)) else false)
abbrev q108 (p0 : q1) := ((q246 p0) = true -> ((q246 p0) == true) = true /\ True)
abbrev q321 (p0 : q6) := (List.getD p0.1 (1 : Nat) (Kd.dft (Kd.int IntKind.u8)))
abbrev q306 (p0 : q6) := (wrZ (q321 p0) - (128 : Int))
abbrev q273 (p0 : q6) := (bif decide (wrZ (q306 p0) = q308) then true else decide ((3 : Int) < wrZ (q306 p0)))
abbrev q109 (p0 : q6) := (((q273 p0) == false && (q273 p0) == false) = true -> decide (q248 < (lnZ p0.1)) = true -> ((q273 p0) == false && (q273 p0) == false && decide (q248 < (lnZ p0.1))
  == true) = true /\ True)
abbrev q110 (p0 : q6) := ((q273 p0) == false && (q273 p0) == false && decide (q248 < (lnZ p0.1)) == true)
abbrev q247 (p0 : q6) := ((bif decide (wrZ (q306 p0) = q308) then true else decide ((3 : Int) < wrZ (q306 p0))) == false)
abbrev q111 (p0 : q6) := ((q273 p0) = false -> (q247 p0) = true /\ True)
abbrev q112 (p0 : q6) := ((q273 p0) == false && (q273 p0) == false)
abbrev q274 (p0 : q6) := (wrZ (q306 p0) = q308)
abbrev q275 (p0 : q6) := ((3 : Int) < wrZ (q306 p0))
abbrev q113 (p0 : q6) := (bif bif decide (q274 p0) then true else decide (q275 p0) then true else bif decide (q248 < (lnZ p0.1)) then decide (List.getD p0.1 q267 q272 = q236) else false)
abbrev q305 (p0 : q6) := (Int.toNat (wrZ ((2 : Int) + wrZ (wrZ (q321 p0) - (128 : Int)))))
abbrev q276 (p0 : q6) := (List.drop (2 : Nat) (List.take (q305 p0) p0.1))
abbrev q114 (p0 : q7) (p1 : q6) := (↑(BitVec.toNat (BitVec.ofInt (64 : Nat) (wrZ (p0.2.1 * q248 ^ q299)) ||| BitVec.ofInt (64 : Nat) (wrZ (List.getD (q276 p1) (Int.toNat p0.1) q272)))) :
  Int)
abbrev q115 (p0 : q6) := ((q273 p0) = false -> True)
abbrev q116 (p0 : q6) := (bif decide (q274 p0) then true else decide (q275 p0))
abbrev q117 (p0 : q7) (p1 : q6) := (p0.1 < (lnZ (q276 p1)))
abbrev q118 (p0 : q6) := (lnZ (q276 p0))
abbrev q119 (p0 : q6) := (List.take (q305 p0) p0.1)
abbrev q120 (p0 : q6) := (decide (q274 p0) == false)
abbrev q121 (p0 : q6) := ((lnZ p0.1) < wrZ ((2 : Int) + wrZ (wrZ (q321 p0) - (128 : Int))))
abbrev q122 (p0 : q6) := (wrZ (q306 p0) = q236)
abbrev q123 (p0 : q6) := (q248 + wrZ (q306 p0))
abbrev q124 (p0 : q6) := (wrZ (q321 p0) - q239)
abbrev q125 := (Kd.dft q298)
abbrev q126 (p0 : q7) := (wiZ p0.1 /\ wiZ p0.2.1 /\ True)
abbrev q249 (p0 : Int × Int × Int × Int × Unit) := (p0.2.2.2.1 = q308)
abbrev q127 (p0 : Int × Int × Int × Int × Unit) := (decide (q249 p0) = true -> (decide (q249 p0) == true) = true /\ (decide (q249 p0) == true) = true /\ True)
abbrev q253 := (Kd.pair q304 (Kd.sl (Kd.int IntKind.u8)))
abbrev q128 (p0 : q16) := (Kd.wf q253 p0.1 /\ wiZ p0.2.1 /\ wiZ p0.2.2.1 /\ True)
abbrev q251 (p0 : q1) (p1 : q1) (p2 : q16) := (wrZ (p0.1 + p1.1) + (lnZ p2.1.2))
abbrev q277 (p0 : q16) (p1 : q6) (p2 : Int × Unit -> Unit × (Int × Unit) × (List Int × Unit) × List (Int × List Int) × Unit -> Prop) (p3 : q1) (p4 : Unit × (Int × Unit) × (List Int × Unit)
  × List (Int × List Int) × Unit) (p5 : Int × Unit -> Unit × (Int × Unit) × (List Int × Unit) × List (Int × List Int) × Unit -> Nat) := ((True /\ (∀ (y_2 : q1), (wiZ y_2.1 /\ True) -> y_2.1 =
  sizeD (lnZ p0.1.2) -> (((q308 = q308 /\ q308 = q308 /\ Value.slice none (0 : Nat) (0 : Nat) = Value.slice none (0 : Nat) (0 : Nat) /\ p1.1 = p1.1 /\ p2 (wrZ (p3.1 + p0.2.1), ()) ((), (wrZ
  (wrZ (p3.1 + y_2.1) + (lnZ p0.1.2)), ()), (p4.2.2.1.1, ()), p4.2.2.2.1 ++ [(p0.1.1, p0.1.2)], ()) /\ p5 (wrZ (p3.1 + p0.2.1), ()) ((), (wrZ (wrZ (p3.1 + y_2.1) + (lnZ p0.1.2)), ()),
  (p4.2.2.1.1, ()), p4.2.2.2.1 ++ [(p0.1.1, p0.1.2)], ()) < p5 p3 p4) /\ True) /\ True) /\ True) /\ True) /\ True)
abbrev q129 (p0 : q16) (p1 : q6) (p2 : Int × Unit -> Unit × (Int × Unit) × (List Int × Unit) × List (Int × List Int) × Unit -> Prop) (p3 : q1) (p4 : Unit × (Int × Unit) × (List Int × Unit)
  × List (Int × List Int) × Unit) (p5 : Int × Unit -> Unit × (Int × Unit) × (List Int × Unit) × List (Int × List Int) × Unit -> Nat) := (((True /\ (∀ (y_2 : q1), (wiZ y_2.1 /\ True) -> y_2.1
  = sizeD (lnZ p0.1.2) -> ((((q236 = q236 /\ q236 = q236 /\ Value.slice none q252 q252 = Value.slice none q252 q252 /\ p1.1 = p1.1 /\ p2 (wrZ (p3.1 + p0.2.1), ()) ((), (wrZ (q251 p3 y_2 p0),
  ()), (p4.2.2.1.1, ()), p4.2.2.2.1 ++ [(p0.1.1, p0.1.2)], ()) /\ p5 (wrZ (p3.1 + p0.2.1), ()) ((), (wrZ (q251 p3 y_2 p0), ()), (p4.2.2.1.1, ()), p4.2.2.2.1 ++ [(p0.1.1, p0.1.2)], ()) < p5 p3
  p4) /\ True) /\ True) /\ True) /\ ((((q236 = q236 /\ q236 = q236 /\ Value.slice none q252 q252 = Value.slice none q252 q252 /\ p1.1 = p1.1 /\ p2 (wrZ (p3.1 + p0.2.1), ()) ((), (wrZ (q251 p3
  y_2 p0), ()), (p4.2.2.1.1, ()), p4.2.2.2.1 ++ [(p0.1.1, p0.1.2)], ()) /\ p5 (wrZ (p3.1 + p0.2.1), ()) ((), (wrZ (q251 p3 y_2 p0), ()), (p4.2.2.1.1, ()), p4.2.2.2.1 ++ [(p0.1.1, p0.1.2)],
  ()) < p5 p3 p4) /\ True) /\ True) /\ True) /\ True) /\ True) /\ (q277 p0 p1 p2 p3 p4 p5) /\ True) /\ ((q277 p0 p1 p2 p3 p4 p5) /\ True) /\ True)
abbrev q130 (p0 : Unit × (Int × Unit) × (List Int × Unit) × List (Int × List Int) × Unit) (p1 : q6) := (decide (p0.2.1.1 = (lnZ p1.1)) = false -> (q236 <= p0.2.1.1 /\ p0.2.1.1 <= (lnZ
  p1.1)) /\ lenB (List.drop (Int.toNat p0.2.1.1) p1.1) <= (1000000000 : Nat) /\ (∀ (y : q16), (Kd.wf q253 y.1 /\ wiZ y.2.1 /\ wiZ y.2.2.1 /\ True) -> (y.1, y.2.1, y.2.2.1) = takeD (List.drop
  (Int.toNat p0.2.1.1) p1.1) -> q267 <= (65536 : Nat) /\ ([], p0.2.1.1, y.2.2.1) = allD p1.1) /\ True)
abbrev q131 := (Kd.sl q253)
abbrev q250 (p0 : q16) (p1 : q6) (p2 : Int × Unit -> Unit × (Int × Unit) × q89 × List q93 × Unit -> Prop) (p3 : q1) (p4 : Unit × (Int × Unit) × q89 × List q93 × Unit) (p5 : Int × Unit ->
  Unit × (Int × Unit) × q89 × List q93 × Unit -> Nat) := ((True /\ (∀ (y_2 : q1), (wiZ y_2.1 /\ True) -> y_2.1 = sizeD (lnZ p0.1.2) -> (((q308 = q308 /\ q308 = q308 /\ Value.slice none (0 :
  Nat) (0 : Nat) = Value.slice none (0 : Nat) (0 : Nat) /\ p1.1 = p1.1 /\ p2 (wrZ (p3.1 + p0.2.1), ()) ((), (wrZ (wrZ (p3.1 + y_2.1) + (lnZ p0.1.2)), ()), (p4.2.2.1.1, ()), p4.2.2.2.1 ++
  [(p0.1.1, p0.1.2)], ()) /\ p5 (wrZ (p3.1 + p0.2.1), ()) ((), (wrZ (wrZ (p3.1 + y_2.1) + (lnZ p0.1.2)), ()), (p4.2.2.1.1, ()), p4.2.2.2.1 ++ [(p0.1.1, p0.1.2)], ()) < p5 p3 p4) /\ True) /\
  True) /\ True) /\ True) /\ True)
def t154 : Prop :=
  ∀ (x : q1), (q30 x) -> True -> (decide (q236 <= x.1) = true -> True) /\ (decide (q236 <= x.1) = true -> (decide (q236 <= x.1) == true) = true /\ True) /\ (decide (q236 <= x.1) = true ->
  (decide (q236 <= x.1) == true) = true) /\ ((q246 x) = true -> True) /\ (q108 x) /\ (q108 x) /\ ((q246 x) = true -> ((q246 x) == true) = true) /\ (bif bif decide (q236 <= x.1) then decide
  (x.1 <= (255 : Int)) else false then decide (wrZ (↑(BitVec.toNat (BitVec.ofInt (64 : Nat) x.1 &&& BitVec.ofInt (64 : Nat) (31 : Int))) : Int) ≠ (31 : Int)) else false) = isTagD x.1
theorem e154 : t154 = Con.vc c_der_isTag GL (mkEnv ty [] [] [] [0, 2]) {} Tryz.f154.ntmps Tryz.f154.results.toList (bodyOf Tryz.f154) := by kernel_rfl
theorem k154 : t154 := by
  unfold t154
  delta q1 q30 q236 q246 q108 wrZ wiZ q308
  rintro ⟨t, _⟩ hx hp
  try dsimp +instances only [dft_int, dft_sl, dft_str]
  simp only [true_and, and_true, eq_self_iff_true, implies_true, reduceCtorEq, false_implies, true_implies, decide_eq_true_eq, decide_eq_false_iff_not, beq_self_eq_true, Bool.not_eq_true', ne_eq, Decidable.not_not, List.nil_append, List.length_singleton, List.length_cons, List.length_nil, Nat.zero_add, Nat.add_zero, Nat.mul_one, and_self, beq_iff_eq, Bool.not_true, Bool.not_false, Bool.not_eq_false', Bool.cond_false_right, Bool.and_eq_true, imp_self, Bool.not_eq_true, Bool.cond_true_left, Bool.or_eq_true]
  exact isTag_eq t
theorem h154 : c_der_isTag.ok Tryz.prog GL 154 := con_ok (H := {}) (mkEnv_ok (gl := GL) (l := []) (q := []) (d := []) _ tyOk (by kernel_rfl) trivial trivial trivial) (by kernel_rfl) (by kernel_rfl) (Eq.mp e154 k154)
def t143 : Prop :=
  ∀ (x : q1), (q30 x) -> q33 <= x.1 /\ x.1 <= (16777215 : Int) -> (decide (x.1 < q239) = true -> [IntKind.wrap IntKind.u8 x.1] = lngD x.1) /\ (decide (x.1 < q239) = false -> (decide (x.1 <
  (256 : Int)) = true -> [(129 : Int), IntKind.wrap IntKind.u8 x.1] = lngD x.1) /\ (decide (x.1 < (256 : Int)) = false -> (decide (x.1 < (65536 : Int)) = true -> q33 <= q329 /\ [(130 : Int),
  IntKind.wrap IntKind.u8 (Int.fdiv x.1 (q69 ^ q299)), IntKind.wrap IntKind.u8 x.1] = lngD x.1) /\ (decide (x.1 < (65536 : Int)) = false -> q33 <= (16 : Int) /\ q33 <= q329 /\ [(131 : Int),
  IntKind.wrap IntKind.u8 (Int.fdiv x.1 (q69 ^ (16 : Nat))), IntKind.wrap IntKind.u8 (Int.fdiv x.1 (q69 ^ q299)), IntKind.wrap IntKind.u8 x.1] = lngD x.1)))
theorem e143 : t143 = Con.vc c_der_length GL (mkEnv ty [] [] [] [0, 2, 3, 9, 15]) {} Tryz.f143.ntmps Tryz.f143.results.toList (bodyOf Tryz.f143) := by kernel_rfl
theorem k143 : t143 := by
  unfold t143
  delta q1 q30 q33 q239 q329 q69 q299 wiZ
  rintro ⟨n, _⟩ hx hp
  obtain ⟨h0, h1⟩ := hp
  simp only at h0 h1
  try dsimp +instances only [dft_int, dft_sl, dft_str]
  simp only [true_and, and_true, eq_self_iff_true, implies_true, reduceCtorEq, false_implies, true_implies, decide_eq_true_eq, decide_eq_false_iff_not, beq_self_eq_true, Bool.not_eq_true', ne_eq, Decidable.not_not, List.nil_append, List.length_singleton, List.length_cons, List.length_nil, Nat.zero_add, Nat.add_zero, Nat.mul_one, and_self, beq_iff_eq, Bool.not_true, Bool.not_false, Bool.not_eq_false', Bool.cond_false_right, Bool.and_eq_true, imp_self, Bool.not_eq_true, Bool.cond_true_left, Bool.or_eq_true]
  have e8 := (fdiv_pow h0).1
  have e16 := (fdiv_pow h0).2
  rw [e8, e16, wrap_u8m, wrap_u8m, wrap_u8m]
  refine ⟨fun h => ?_, fun h => ⟨fun h2 => ?_, fun h2 => ⟨fun h3 => ⟨by decide, ?_⟩, fun h3 => ⟨by decide, by decide, ?_⟩⟩⟩⟩
  . rw [lngD, if_pos h, show n % 256 = n by omega]
  . rw [lngD, if_neg h, if_pos h2, show n % 256 = n by omega]
  . rw [lngD, if_neg h, if_neg h2, if_pos h3, show n / 256 % 256 = n / 256 by omega]
  . rw [lngD, if_neg h, if_neg h2, if_neg h3, show n / 65536 % 256 = n / 65536 by omega]
theorem h143 : c_der_length.ok Tryz.prog GL 143 := con_ok (H := {}) (mkEnv_ok (gl := GL) (l := []) (q := []) (d := []) _ tyOk (by kernel_rfl) trivial trivial trivial) (by kernel_rfl) (by kernel_rfl) (Eq.mp e143 k143)
def t141 : Prop :=
  ∀ (x : q6), (wyZ x.1 /\ True) -> lenB x.1 <= q92 -> ∀ (b : Bool), (b = true -> x.1 = []) -> (b = true -> [] = x.1) /\ (b = false -> q67 < q36 /\ (q67 + List.length x.1) * q36 <= q86 /\ q67
  + List.length x.1 <= q85 /\ [] ++ x.1 = x.1)
theorem e141 : t141 = Con.vc c_slices_Clone_byte_byte GL (mkEnv ty [] [] [] [0, 2, 4]) {} Tryz.f141.ntmps Tryz.f141.results.toList (bodyOf Tryz.f141) := by kernel_rfl
theorem k141 : t141 := by
  unfold t141
  delta q6 wyZ q92 q67 q36 q86 q85
  rintro ⟨l, _⟩ hx hp
  have hp : l.length ≤ 1000000000 := hp
  try dsimp +instances only [dft_int, dft_sl, dft_str]
  simp only [true_and, and_true, eq_self_iff_true, implies_true, reduceCtorEq, false_implies, true_implies, decide_eq_true_eq, decide_eq_false_iff_not, beq_self_eq_true, Bool.not_eq_true', ne_eq, Decidable.not_not, List.nil_append, List.length_singleton, List.length_cons, List.length_nil, Nat.zero_add, Nat.add_zero, Nat.mul_one, and_self, beq_iff_eq, Bool.not_true, Bool.not_false, Bool.not_eq_false', Bool.cond_false_right, Bool.and_eq_true, imp_self, Bool.not_eq_true, Bool.cond_true_left, Bool.or_eq_true]
  intro b hb
  exact ⟨fun h => (hb h).symm, fun _ => ⟨by decide, by omega, by omega⟩⟩
theorem h141 : c_slices_Clone_byte_byte.ok Tryz.prog GL 141 := con_ok (H := {}) (mkEnv_ok (gl := GL) (l := []) (q := []) (d := []) _ tyOk (by kernel_rfl) trivial trivial trivial) (by kernel_rfl) (by kernel_rfl) (Eq.mp e141 k141)
def t140 : Prop :=
  ∀ (x : q6), (wyZ x.1 /\ True) -> lenB x.1 <= q92 -> (decide ((lnZ x.1) = q33) = true -> (q33, q33, q33, (10 : Int)) = headK x.1) /\ (decide ((lnZ x.1) = q33) = false -> (q61 x) /\ True /\
  (∀ (y : q4), (q44 y) -> y.1 = isTagD (wrZ (List.getD x.1 q67 q125)) -> ((!y.1) = true -> (q33, q33, q33, (11 : Int)) = headK x.1) /\ ((!y.1) = false -> (decide ((lnZ x.1) = q66) = true ->
  (q33, q33, q33, (10 : Int)) = headK x.1) /\ (decide ((lnZ x.1) = q66) = false -> (q62 x) /\ (decide (wrZ (q124 x) < q33) = true -> (q61 x) /\ (q62 x) /\ (wrZ (List.getD x.1 q67 q125), q69,
  wrZ (q321 x), q33) = headK x.1) /\ (decide (wrZ (q124 x) < q33) = false -> (decide (q122 x) = false -> True) /\ (decide (q122 x) = false -> (q120 x) = true /\ True) /\ (decide (q122 x) =
  false -> (q120 x) = true) /\ (q115 x) /\ (q111 x) /\ (q111 x) /\ (q115 x) /\ ((q112 x) = true -> decide (q248 < (lnZ x.1)) = true -> True) /\ ((q112 x) = true -> decide (q248 < (lnZ x.1)) =
  true -> (q110 x) = true /\ (q33 <= q69 /\ q69 < (lnZ x.1)) /\ True) /\ (q109 x) /\ (q109 x) /\ ((q116 x) = false -> (q112 x) = true /\ (decide (q248 < (lnZ x.1)) = true -> (q110 x) = true)
  /\ True) /\ ((q116 x) = false -> (q247 x) = true) /\ ((q113 x) = true -> (q33, q33, q33, (12 : Int)) = headK x.1) /\ ((q113 x) = false -> (decide (q121 x) = true -> (q33, q33, q33, (10 :
  Int)) = headK x.1) /\ (decide (q121 x) = false -> (q33 <= q69 /\ q69 <= wrZ (q123 x) /\ wrZ (q123 x) <= (lnZ x.1)) /\ ∃ (I : Int × Int × Unit -> Unit -> Prop), ∃ (μ : Int × Int × Unit ->
  Unit -> Nat), ((q118 x) = (q118 x) /\ List.drop q68 (q119 x) = List.drop q68 (q119 x) /\ Value.bool false = Value.bool false /\ Value.bool false = Value.bool false /\ Value.bool false =
  Value.bool false /\ wrZ (q124 x) = wrZ (q124 x) /\ Value.bool false = Value.bool false /\ Value.bool false = Value.bool false /\ Value.bool false = Value.bool false /\ q33 = q33 /\ q33 =
  q33 /\ q33 = q33 /\ x.1 = x.1 /\ I (q33, q33, ()) ()) /\ ∀ (y : q7) (z : Unit), (q126 y) -> True -> I y z -> (decide (q117 y x) = true -> (q33 <= y.1 /\ y.1 < (q118 x)) /\ q33 <= q329 /\
  (q118 x) = (q118 x) /\ List.drop q68 (q119 x) = List.drop q68 (q119 x) /\ Value.bool false = Value.bool false /\ Value.bool false = Value.bool false /\ Value.bool false = Value.bool false
  /\ wrZ (q124 x) = wrZ (q124 x) /\ Value.bool false = Value.bool false /\ Value.bool false = Value.bool false /\ Value.bool false = Value.bool false /\ q33 = q33 /\ q33 = q33 /\ q33 = q33 /\
  x.1 = x.1 /\ I (wrZ (y.1 + q66), wrZ (q114 y x), ()) () /\ μ (wrZ (y.1 + q66), wrZ (q114 y x), ()) () < μ y z) /\ (decide (q117 y x) = false -> (decide (y.2.1 < q239) = true -> (q33, q33,
  q33, (12 : Int)) = headK x.1) /\ (decide (y.2.1 < q239) = false -> (q61 x) /\ (wrZ (List.getD x.1 q67 q125), wrZ (q123 x), y.2.1, q33) = headK x.1)))))))) /\ True)
theorem e140 : t140 = Con.vc c_der_head GL (mkEnv ty [(154, conSem c_der_isTag)] [] [] [0, 2, 3, 4, 5, 6, 8, 9, 13, 20, 29, 40, 58, 67, 68, 69, 70, 80]) {} Tryz.f140.ntmps Tryz.f140.results.toList (bodyOf Tryz.f140) := by kernel_rfl
theorem k140 : t140 := by
  unfold t140
  delta q6 wyZ q92 lnZ q33 q61 q4 q44 wrZ q67 q125 q66 q62 q124 q69 q321 q122 q120 q115 q111 q112 q248 q110 q109 q116 q247 q113 q121 q123 q118 q68 q119 q7 q126 q117 q329 q114 q239 q236 wbZ q298 q240 q306 q274 q273 q275 q308 q267 q272 q276 q305 wiZ q299
  rintro ⟨b, _⟩ hx hp
  have hp : b.length ≤ 1000000000 := hp
  have hb : Bys b := sl_bys hx.1
  try dsimp +instances only [dft_int, dft_sl, dft_str]
  simp only [true_and, and_true, eq_self_iff_true, implies_true, reduceCtorEq, false_implies, true_implies, decide_eq_true_eq, decide_eq_false_iff_not, beq_self_eq_true, Bool.not_eq_true', ne_eq, Decidable.not_not, List.nil_append, List.length_singleton, List.length_cons, List.length_nil, Nat.zero_add, Nat.add_zero, Nat.mul_one, and_self, beq_iff_eq, Bool.not_true, Bool.not_false, Bool.not_eq_false', Bool.cond_false_right, Bool.and_eq_true, imp_self, Bool.not_eq_true, Bool.cond_true_left, Bool.or_eq_true]
  have b0 := bys_get hb 0
  have b1 := bys_get hb 1
  rw [wrapK (b.getD 0 0) (by omega) (by omega), wrapK (b.getD 1 0) (by omega) (by omega), wrapK (b.getD 1 0 - 128) (by omega) (by omega), wrapK (2 + (b.getD 1 0 - 128)) (by omega) (by omega)]
  have hnil : b = [] ↔ (b.length : Int) = 0 := ⟨fun h => by rw [h]; rfl, fun h => List.eq_nil_of_length_eq_zero (by omega)⟩
  unfold headK
  refine ⟨fun h => by rw [if_pos (hnil.2 h)], fun h => ⟨⟨by decide, by omega⟩, ?_⟩⟩
  rw [if_neg (fun e => h (hnil.1 e))]
  rintro ⟨q, _⟩ _ eq
  simp only at eq ⊢
  subst eq
  refine ⟨fun h1 => by rw [if_pos h1], fun h1 => ?_⟩
  rw [if_neg (by rw [h1]; decide)]
  refine ⟨fun h2 => by rw [if_pos (by omega)], fun h2 => ⟨⟨by decide, by omega⟩, fun h3 => ⟨⟨by decide, by omega⟩, ⟨by decide, by omega⟩, ?_⟩, fun h3 => ?_⟩⟩
  . rw [if_neg (by omega), if_pos (by omega)]
  rw [if_neg (by omega), if_neg (by omega)]
  refine ⟨fun g1 g2 => ⟨⟨g1, g2⟩, by decide, by omega⟩, fun g1 g2 => ⟨g1, g2⟩, fun g1 g2 => ⟨g1, g2⟩, fun g1 => ⟨g1, fun g2 => ⟨g1, g2⟩⟩, fun h4 => by rw [if_pos (by omega)], fun h4 => ?_⟩
  have h4' : ¬ (b.getD 1 0 = 128 ∨ 131 < b.getD 1 0 ∨ (2 < b.length ∧ b.getD 2 0 = 0)) := by
    simp only [Bool.or_eq_false_iff, Bool.and_eq_false_iff, decide_eq_false_iff_not] at h4
    omega
  rw [if_neg h4']
  refine ⟨fun h5 => by rw [if_pos h5], fun h5 => ⟨⟨by decide, by omega, by omega⟩, ?_⟩⟩
  rw [if_neg h5]
  have hsl : (b.take (2 + (b.getD 1 0 - 128)).toNat).drop 2 = (b.drop 2).take (b.getD 1 0 - 128).toNat := by
    rw [List.drop_take]
    congr 1
    omega
  rw [hsl]
  have hbl : Bys ((b.drop 2).take (b.getD 1 0 - 128).toNat) := bys_take (bys_drop hb 2) _
  have hll : ((b.drop 2).take (b.getD 1 0 - 128).toNat).length ≤ 3 := by rw [List.length_take]; omega
  generalize (b.drop 2).take (b.getD 1 0 - 128).toNat = l at hbl hll
  refine ⟨fun y _ => 0 ≤ y.1 ∧ y.1 ≤ l.length ∧ y.2.1 = numB (l.take y.1.toNat), fun y _ => ((l.length : Int) - y.1).toNat, ⟨Int.le_refl 0, by simp only; omega, rfl⟩, ?_⟩
  rintro ⟨i, n, _⟩ _ _ ⟨i0, i1, en⟩
  simp only at i0 i1 en ⊢
  refine ⟨fun hlt => ⟨⟨i0, hlt⟩, by decide, ?_⟩, fun hge => ?_⟩
  . have hnb := num_bound hbl (j := i.toNat) (by omega)
    rw [← en] at hnb
    rw [wrapK (i + 1) (by omega) (by omega), or8 (bys_get hbl _) hnb]
    refine ⟨⟨by omega, by omega, ?_⟩, by omega⟩
    rw [show (i + 1).toNat = i.toNat + 1 by omega, take_snoc l _ (by omega), num_snoc, en]
  . rw [List.take_of_length_le (by omega)] at en
    rw [en]
    exact ⟨fun h6 => by rw [if_pos h6], fun h6 => ⟨⟨by decide, by omega⟩, by rw [if_neg h6]⟩⟩
theorem h140 : c_der_head.ok Tryz.prog GL 140 := con_ok (H := {}) (mkEnv_ok (gl := GL) (l := [(154, conSem c_der_isTag)]) (q := []) (d := []) _ tyOk (by kernel_rfl) ⟨h154.call, trivial⟩ trivial trivial) (by kernel_rfl) (by kernel_rfl) (Eq.mp e140 k140)
def t129 : Prop :=
  ∀ (x : q6), (wyZ x.1 /\ True) -> lenB x.1 <= q92 -> q68 <= q65 /\ lenB x.1 <= q92 /\ (∀ (y : Int × Int × Int × Int × Unit), (wiZ y.1 /\ wiZ y.2.1 /\ wiZ y.2.2.1 /\ wiZ y.2.2.2.1 /\ True) ->
  (y.1, y.2.1, y.2.2.1, y.2.2.2.1) = headK x.1 -> (decide (q249 y) = true -> True) /\ (decide (q249 y) = true -> (decide (q249 y) == true) = true /\ True) /\ (decide (q249 y) = true -> True)
  /\ (q127 y) /\ (decide (q249 y) = true -> True) /\ (q127 y) /\ (decide (q249 y) = true -> (decide (q249 y) == true) = true) /\ ((bif decide (q249 y) then decide (wrZ ((lnZ x.1) - y.2.1) <
  y.2.2.1) else false) = true -> (decide ((10 : Int) ≠ q33) = true -> ((q33, []), q33, (10 : Int)) = takeD x.1) /\ (decide ((10 : Int) ≠ q33) = false -> (q33 <= y.2.1 /\ y.2.1 <= wrZ (y.2.1 +
  y.2.2.1) /\ wrZ (y.2.1 + y.2.2.1) <= (lnZ x.1)) /\ lenB (List.drop (Int.toNat y.2.1) (List.take (Int.toNat (wrZ (y.2.1 + y.2.2.1))) x.1)) <= q92 /\ (∀ (y_1 : q6), (wyZ y_1.1 /\ True) ->
  y_1.1 = List.drop (Int.toNat y.2.1) (List.take (Int.toNat (wrZ (y.2.1 + y.2.2.1))) x.1) -> ((y.1, y_1.1), wrZ (y.2.1 + y.2.2.1), q33) = takeD x.1) /\ True)) /\ ((bif decide (q249 y) then
  decide (wrZ ((lnZ x.1) - y.2.1) < y.2.2.1) else false) = false -> (decide (y.2.2.2.1 ≠ q33) = true -> ((q33, []), q33, y.2.2.2.1) = takeD x.1) /\ (decide (y.2.2.2.1 ≠ q33) = false -> (q33
  <= y.2.1 /\ y.2.1 <= wrZ (y.2.1 + y.2.2.1) /\ wrZ (y.2.1 + y.2.2.1) <= (lnZ x.1)) /\ lenB (List.drop (Int.toNat y.2.1) (List.take (Int.toNat (wrZ (y.2.1 + y.2.2.1))) x.1)) <= q92 /\ (∀ (y_1
  : q6), (wyZ y_1.1 /\ True) -> y_1.1 = List.drop (Int.toNat y.2.1) (List.take (Int.toNat (wrZ (y.2.1 + y.2.2.1))) x.1) -> ((y.1, y_1.1), wrZ (y.2.1 + y.2.2.1), q33) = takeD x.1) /\ True)))
  /\ True
theorem e129 : t129 = Con.vc c_der_Take GL (mkEnv ty [(140, conSem c_der_head), (141, conSem c_slices_Clone_byte_byte)] [] [] [0, 2, 3, 4, 5, 6, 7, 8, 25, 27]) {} Tryz.f129.ntmps Tryz.f129.results.toList (bodyOf Tryz.f129) := by kernel_rfl
theorem k129 : t129 := by
  unfold t129
  delta q6 wyZ q92 q68 q65 wiZ q249 q127 wrZ lnZ q33 q308
  rintro ⟨b, _⟩ hx hp
  have hp : b.length ≤ 1000000000 := hp
  have hb : Bys b := sl_bys hx.1
  try dsimp +instances only [dft_int, dft_sl, dft_str]
  simp only [true_and, and_true, eq_self_iff_true, implies_true, reduceCtorEq, false_implies, true_implies, decide_eq_true_eq, decide_eq_false_iff_not, beq_self_eq_true, Bool.not_eq_true', ne_eq, Decidable.not_not, List.nil_append, List.length_singleton, List.length_cons, List.length_nil, Nat.zero_add, Nat.add_zero, Nat.mul_one, and_self, beq_iff_eq, Bool.not_true, Bool.not_false, Bool.not_eq_false', Bool.cond_false_right, Bool.and_eq_true, imp_self, Bool.not_eq_true, Bool.cond_true_left, Bool.or_eq_true]
  refine ⟨by decide, hp, ?_⟩
  rintro ⟨t, f, n, e, _⟩ _ eh
  simp only at eh ⊢
  have k1 : (headK b).1 = t := by rw [← eh]
  have k2 : (headK b).2.1 = f := by rw [← eh]
  have k3 : (headK b).2.2.1 = n := by rw [← eh]
  have k4 : (headK b).2.2.2 = e := by rw [← eh]
  have hT : takeD b = if e ≠ 0 then ((0, []), 0, e) else if (b.length : Int) - f < n then ((0, []), 0, 10) else ((t, (b.drop f.toNat).take n.toNat), f + n, 0) := by rw [takeD, k1, k2, k3, k4]
  have hok : e = 0 → 2 ≤ f ∧ f ≤ 5 ∧ f ≤ b.length ∧ 0 ≤ n ∧ n ≤ 16777215 := fun h => by
    have := head_ok hb (by rw [k4]; exact h)
    rw [k2, k3] at this
    exact ⟨this.1, this.2.1, this.2.2.1, this.2.2.2.1, this.2.2.2.2.1⟩
  refine ⟨fun h => ⟨fun _ => ?_, fun h10 => by cases h10⟩, fun h => ⟨fun he => by rw [hT, if_pos he], fun he => ?_⟩⟩
  . obtain ⟨h1, h2⟩ := h
    have := hok h1
    rw [wrapK _ (by omega) (by omega)] at h2
    rw [hT, if_neg (by omega), if_pos h2]
  . have hk := hok he
    simp only [Bool.and_eq_false_iff, decide_eq_false_iff_not] at h
    have h := h.resolve_left (fun h => h he)
    rw [wrapK _ (by omega) (by omega)] at h
    rw [wrapK (f + n) (by omega) (by omega)]
    refine ⟨⟨by omega, by omega, by omega⟩, by rw [lenB, List.length_drop, List.length_take]; omega, ?_⟩
    rintro ⟨c, _⟩ _ ec
    simp only at ec ⊢
    rw [hT, if_neg (by omega), if_neg h, ec, List.drop_take, show (f + n).toNat - f.toNat = n.toNat by omega]
theorem h129 : c_der_Take.ok Tryz.prog GL 129 := con_ok (H := {}) (mkEnv_ok (gl := GL) (l := [(140, conSem c_der_head), (141, conSem c_slices_Clone_byte_byte)]) (q := []) (d := []) _ tyOk (by kernel_rfl) ⟨h140.call, h141.call, trivial⟩ trivial trivial) (by kernel_rfl) (by kernel_rfl) (Eq.mp e129 k129)
def t112 : Prop :=
  ∀ (x : q6), (wyZ x.1 /\ True) -> lenB x.1 <= q92 -> q68 <= q65 /\ lenB x.1 <= q92 /\ (∀ (y : q16), (q128 y) -> (y.1, y.2.1, y.2.2.1) = takeD x.1 -> q68 <= q65 /\ (decide (y.2.2.1 = q33) =
  true -> True) /\ (decide (y.2.2.1 = q33) = true -> True) /\ (decide (y.2.2.1 = q33) = true -> (decide (y.2.2.1 = q33) == true) = true /\ True) /\ (decide (y.2.2.1 = q33) = true -> (decide
  (y.2.2.1 = q33) == true) = true /\ (decide (y.2.2.1 = q33) == true) = true /\ True) /\ (decide (y.2.2.1 = q33) = true -> (decide (y.2.2.1 = q33) == true) = true) /\ ((bif decide (y.2.2.1 =
  q33) then decide (y.2.1 < (lnZ x.1)) else false) = true -> ((q33, []), (13 : Int)) = oneD x.1) /\ ((bif decide (y.2.2.1 = q33) then decide (y.2.1 < (lnZ x.1)) else false) = false ->
  ((y.1.1, y.1.2), y.2.2.1) = oneD x.1)) /\ True
theorem e112 : t112 = Con.vc c_der_One GL (mkEnv ty [(129, conSem c_der_Take)] [] [] [0, 2, 3, 4, 5, 6, 20]) {} Tryz.f112.ntmps Tryz.f112.results.toList (bodyOf Tryz.f112) := by kernel_rfl
theorem k112 : t112 := by
  unfold t112
  delta q6 wyZ q92 q68 q65 q16 q128 q33 lnZ q253 wiZ q304
  rintro ⟨b, _⟩ hx hp
  have hp : b.length ≤ 1000000000 := hp
  try dsimp +instances only [dft_int, dft_sl, dft_str]
  simp only [true_and, and_true, eq_self_iff_true, implies_true, reduceCtorEq, false_implies, true_implies, decide_eq_true_eq, decide_eq_false_iff_not, beq_self_eq_true, Bool.not_eq_true', ne_eq, Decidable.not_not, List.nil_append, List.length_singleton, List.length_cons, List.length_nil, Nat.zero_add, Nat.add_zero, Nat.mul_one, and_self, beq_iff_eq, Bool.not_true, Bool.not_false, Bool.not_eq_false', Bool.cond_false_right, Bool.and_eq_true, imp_self, Bool.not_eq_true, Bool.cond_true_left, Bool.or_eq_true]
  refine ⟨by decide, hp, ?_⟩
  rintro ⟨⟨t, c⟩, n, e, _⟩ _ eT
  simp only at eT ⊢
  refine ⟨by decide, fun h => ?_, fun h => ?_⟩
  . rw [oneD, ← eT, if_pos h]
  . rw [oneD, ← eT, if_neg (fun hh => by simp only [Bool.and_eq_false_iff, decide_eq_false_iff_not] at h; exact h.elim (fun h => h hh.1) (fun h => h hh.2))]
theorem h112 : c_der_One.ok Tryz.prog GL 112 := con_ok (H := {}) (mkEnv_ok (gl := GL) (l := [(129, conSem c_der_Take)]) (q := []) (d := []) _ tyOk (by kernel_rfl) ⟨h129.call, trivial⟩ trivial trivial) (by kernel_rfl) (by kernel_rfl) (Eq.mp e112 k112)
def t131 : Prop :=
  ∀ (x : q1), (q30 x) -> True -> (decide (x.1 < q33) = false -> True) /\ (decide (x.1 < q33) = false -> (decide (x.1 < q33) == false) = true /\ True) /\ (decide (x.1 < q33) = false -> (decide
  (x.1 < q33) == false) = true) /\ ((bif decide (x.1 < q33) then true else decide ((16777215 : Int) < x.1)) = true -> q33 = sizeD x.1) /\ ((bif decide (x.1 < q33) then true else decide
  ((16777215 : Int) < x.1)) = false -> (q33 <= x.1 /\ x.1 <= (16777215 : Int)) /\ (∀ (y : q6), (wyZ y.1 /\ True) -> y.1 = lngD x.1 -> wrZ (q66 + (lnZ y.1)) = sizeD x.1) /\ True)
theorem e131 : t131 = Con.vc c_der_Size GL (mkEnv ty [(143, conSem c_der_length)] [] [] [0, 2, 8]) {} Tryz.f131.ntmps Tryz.f131.results.toList (bodyOf Tryz.f131) := by kernel_rfl
theorem k131 : t131 := by
  unfold t131
  delta q1 q30 q33 q6 wyZ wrZ q66 lnZ wiZ
  rintro ⟨n, _⟩ hx hp
  try dsimp +instances only [dft_int, dft_sl, dft_str]
  simp only [true_and, and_true, eq_self_iff_true, implies_true, reduceCtorEq, false_implies, true_implies, decide_eq_true_eq, decide_eq_false_iff_not, beq_self_eq_true, Bool.not_eq_true', ne_eq, Decidable.not_not, List.nil_append, List.length_singleton, List.length_cons, List.length_nil, Nat.zero_add, Nat.add_zero, Nat.mul_one, and_self, beq_iff_eq, Bool.not_true, Bool.not_false, Bool.not_eq_false', Bool.cond_false_right, Bool.and_eq_true, imp_self, Bool.not_eq_true, Bool.cond_true_left, Bool.or_eq_true]
  refine ⟨fun h => by rw [sizeD, if_pos h], fun h => ?_⟩
  simp only [Bool.or_eq_false_iff, decide_eq_false_iff_not] at h
  refine ⟨⟨by omega, by omega⟩, ?_⟩
  rintro ⟨l, _⟩ _ el
  simp only at el ⊢
  have := lng_len (n := n)
  rw [el, wrapK _ (by omega) (by omega), size_of (by omega) (by omega)]
theorem h131 : c_der_Size.ok Tryz.prog GL 131 := con_ok (H := {}) (mkEnv_ok (gl := GL) (l := [(143, conSem c_der_length)]) (q := []) (d := []) _ tyOk (by kernel_rfl) ⟨h143.call, trivial⟩ trivial trivial) (by kernel_rfl) (by kernel_rfl) (Eq.mp e131 k131)
noncomputable def i142 : CallSem → CallSem := vcSeq (mkEnv ty [(129, conSem c_der_Take)] [] [] [0, 1, 3, 4, 5, 6, 10, 27]) {} Tryz.f142.ntmps Tryz.f142.results.toList (bodyOf Tryz.f142)
theorem i142_ok : SeqOk Tryz.prog GL 142 i142 := seq_ok {} (mkEnv_ok (gl := GL) (l := [(129, conSem c_der_Take)]) (q := []) (d := []) _ tyOk (by kernel_rfl) ⟨h129.call, trivial⟩ trivial trivial) (by kernel_rfl) (by kernel_rfl)
noncomputable def i130 : CallSem := vcFn (mkEnv ty [(141, conSem c_slices_Clone_byte_byte)] [] [] [0, 2, 3]) {} Tryz.f130.ntmps Tryz.f130.results.toList (bodyOf Tryz.f130)
theorem i130_ok : CallOk Tryz.prog GL 130 i130 := inl_ok {} (mkEnv_ok (gl := GL) (l := [(141, conSem c_slices_Clone_byte_byte)]) (q := []) (d := []) _ tyOk (by kernel_rfl) ⟨h141.call, trivial⟩ trivial trivial) (by kernel_rfl) (by kernel_rfl)
def t113 : Prop :=
  ∀ (x : q6), (wyZ x.1 /\ True) -> lenB x.1 <= q92 -> q36 <= q65 /\ q36 <= q65 /\ lenB x.1 <= q92 /\ (∀ (y : q6), (wyZ y.1 /\ True) -> y.1 = x.1 -> q36 <= q65 /\ ∃ (I : Int × Unit -> Unit ×
  (Int × Unit) × q89 × List q93 × Unit -> Prop), ∃ (μ : Int × Unit -> Unit × (Int × Unit) × q89 × List q93 × Unit -> Nat), (q33 = q33 /\ q33 = q33 /\ Value.slice none q67 q67 = Value.slice
  none q67 q67 /\ x.1 = x.1 /\ I (q33, ()) ((), (q33, ()), (y.1, ()), [], ())) /\ ∀ (y : q1) (z : Unit × (Int × Unit) × q89 × List q93 × Unit), (q30 y) -> True /\ (wiZ z.2.1.1 /\ True) /\
  (wyZ z.2.2.1.1 /\ True) /\ (Kd.wf q131 z.2.2.2.1 /\ True) -> I y z -> (decide (y.1 < (lnZ z.2.2.1.1)) = true -> (q33 <= y.1 /\ y.1 <= (lnZ z.2.2.1.1)) /\ lenB (List.drop (q35 y) z.2.2.1.1)
  <= q92 /\ (∀ (y_1 : q16), (q128 y_1) -> (y_1.1, y_1.2.1, y_1.2.2.1) = takeD (List.drop (q35 y) z.2.2.1.1) -> q68 <= q65 /\ (decide (y_1.2.2.1 ≠ q33) = false -> True) /\ (decide (y_1.2.2.1 ≠
  q33) = false -> True) /\ (decide (y_1.2.2.1 ≠ q33) = false -> True) /\ (decide (y_1.2.2.1 ≠ q33) = false -> (decide (y_1.2.2.1 ≠ q33) == false) = true /\ (decide (y_1.2.2.1 ≠ q33) == false)
  = true /\ (decide (y_1.2.2.1 ≠ q33) == false) = true /\ q68 <= q65 /\ q67 < q68 /\ (List.length z.2.2.2.1 + List.length [(y_1.1.1, y_1.1.2)]) * (32 : Nat) <= q86 /\ List.length z.2.2.2.1 +
  List.length [(y_1.1.1, y_1.1.2)] <= q85 /\ (((True /\ (∀ (y_2 : q1), (q30 y_2) -> y_2.1 = sizeD (lnZ y_1.1.2) -> (((((q33 = q33 /\ q33 = q33 /\ Value.slice none q67 q67 = Value.slice none
  q67 q67 /\ x.1 = x.1 /\ I (wrZ (y.1 + y_1.2.1), ()) ((), (wrZ (q251 y y_2 y_1), ()), (z.2.2.1.1, ()), z.2.2.2.1 ++ [(y_1.1.1, y_1.1.2)], ()) /\ μ (wrZ (y.1 + y_1.2.1), ()) ((), (wrZ (q251 y
  y_2 y_1), ()), (z.2.2.1.1, ()), z.2.2.2.1 ++ [(y_1.1.1, y_1.1.2)], ()) < μ y z) /\ True) /\ True) /\ True) /\ True) /\ (((((q33 = q33 /\ q33 = q33 /\ Value.slice none q67 q67 = Value.slice
  none q67 q67 /\ x.1 = x.1 /\ I (wrZ (y.1 + y_1.2.1), ()) ((), (wrZ (q251 y y_2 y_1), ()), (z.2.2.1.1, ()), z.2.2.2.1 ++ [(y_1.1.1, y_1.1.2)], ()) /\ μ (wrZ (y.1 + y_1.2.1), ()) ((), (wrZ
  (q251 y y_2 y_1), ()), (z.2.2.1.1, ()), z.2.2.2.1 ++ [(y_1.1.1, y_1.1.2)], ()) < μ y z) /\ True) /\ True) /\ True) /\ ((((q33 = q33 /\ q33 = q33 /\ Value.slice none q67 q67 = Value.slice
  none q67 q67 /\ x.1 = x.1 /\ I (wrZ (y.1 + y_1.2.1), ()) ((), (wrZ (q251 y y_2 y_1), ()), (z.2.2.1.1, ()), z.2.2.2.1 ++ [(y_1.1.1, y_1.1.2)], ()) /\ μ (wrZ (y.1 + y_1.2.1), ()) ((), (wrZ
  (q251 y y_2 y_1), ()), (z.2.2.1.1, ()), z.2.2.2.1 ++ [(y_1.1.1, y_1.1.2)], ()) < μ y z) /\ True) /\ True) /\ True) /\ True) /\ True) /\ True) /\ ((True /\ (∀ (y_2 : q1), (wiZ y_2.1 /\ True)
  -> y_2.1 = sizeD (lnZ y_1.1.2) -> ((((q236 = q236 /\ q236 = q236 /\ Value.slice none q252 q252 = Value.slice none q252 q252 /\ x.1 = x.1 /\ I (wrZ (y.1 + y_1.2.1), ()) ((), (wrZ (q251 y y_2
  y_1), ()), (z.2.2.1.1, ()), z.2.2.2.1 ++ [(y_1.1.1, y_1.1.2)], ()) /\ μ (wrZ (y.1 + y_1.2.1), ()) ((), (wrZ (q251 y y_2 y_1), ()), (z.2.2.1.1, ()), z.2.2.2.1 ++ [(y_1.1.1, y_1.1.2)], ()) <
  μ y z) /\ True) /\ True) /\ True) /\ ((((q236 = q236 /\ q236 = q236 /\ Value.slice none q252 q252 = Value.slice none q252 q252 /\ x.1 = x.1 /\ I (wrZ (y.1 + y_1.2.1), ()) ((), (wrZ (q251 y
  y_2 y_1), ()), (z.2.2.1.1, ()), z.2.2.2.1 ++ [(y_1.1.1, y_1.1.2)], ()) /\ μ (wrZ (y.1 + y_1.2.1), ()) ((), (wrZ (q251 y y_2 y_1), ()), (z.2.2.1.1, ()), z.2.2.2.1 ++ [(y_1.1.1, y_1.1.2)],
  ()) < μ y z) /\ True) /\ True) /\ True) /\ True) /\ True) /\ (q250 y_1 x I y z μ) /\ True) /\ True) /\ (q129 y_1 x I y z μ) /\ True) /\ ((q129 y_1 x I y z μ) /\ (((q250 y_1 x I y z μ) /\
  True) /\ True) /\ True) /\ True) /\ (decide (y_1.2.2.1 ≠ q33) = !false -> (decide (z.2.1.1 = (lnZ x.1)) = true -> (z.2.2.2.1, z.2.1.1, q33) = allD x.1) /\ (q130 z x))) /\ True) /\ (decide
  (y.1 < (lnZ z.2.2.1.1)) = false -> (decide (z.2.1.1 = (lnZ x.1)) = true -> (z.2.2.2.1, z.2.1.1, q33) = allD x.1) /\ (q130 z x))) /\ True
theorem e113 : t113 = Con.vc c_der_All GL (mkEnv ty [(130, i130), (129, conSem c_der_Take), (131, conSem c_der_Size)] [(142, i142)] [] [0, 2, 3, 4, 5, 6, 7, 8, 11, 13, 14, 15, 33]) {} Tryz.f113.ntmps Tryz.f113.results.toList (bodyOf Tryz.f113) := by kernel_rfl
theorem k113 : t113 := by
  unfold t113
  delta q6 wyZ q92 q36 q65 q89 q93 q33 q67 q1 q30 wiZ q131 lnZ q35 q16 q128 q68 q86 q85 wrZ q251 q236 q252 q250 q129 q130 q253 q308 q277 q267 q304
  rintro ⟨b, _⟩ hx hp
  have hp : b.length ≤ 1000000000 := hp
  have hb : Bys b := sl_bys hx.1
  try dsimp +instances only [dft_int, dft_sl, dft_str]
  simp only [true_and, and_true, eq_self_iff_true, implies_true, reduceCtorEq, false_implies, true_implies, decide_eq_true_eq, decide_eq_false_iff_not, beq_self_eq_true, Bool.not_eq_true', ne_eq, Decidable.not_not, List.nil_append, List.length_singleton, List.length_cons, List.length_nil, Nat.zero_add, Nat.add_zero, Nat.mul_one, and_self, beq_iff_eq, Bool.not_true, Bool.not_false, Bool.not_eq_false', Bool.cond_false_right, Bool.and_eq_true, imp_self, Bool.not_eq_true, Bool.cond_true_left, Bool.or_eq_true]
  refine ⟨by decide, by decide, hp, ?_⟩
  rintro ⟨b1, _⟩ _ eb
  have eb : b1 = b := eb
  subst eb
  refine ⟨by decide, fun y z => z.2.2.1.1 = b1 ∧ 0 ≤ y.1 ∧ y.1 ≤ b1.length ∧ z.2.1.1 = y.1 ∧ (z.2.2.2.1 : List EltT).length ≤ y.1 ∧ ∃ (k : Nat) (pre : List (Int × EltT)), (b1.length : Int) - y.1 ≤ k ∧ rowD b1 = (pre ++ (rowR b1 k y.1).1, (rowR b1 k y.1).2) ∧ z.2.2.2.1 = pre.map (·.2), fun y _ => ((b1.length : Int) - y.1).toNat, ⟨rfl, Int.le_refl 0, by simp only; omega, rfl, by simp, b1.length, [], by simp only; omega, rfl, rfl⟩, ?_⟩
  rintro ⟨i, _⟩ ⟨_, ⟨en, _⟩, ⟨own, _⟩, out, _⟩ _ _ ⟨eo, i0, i1, ee, hl, k, pre, hk, hr, eout⟩
  simp only at eo i0 i1 ee hl hk hr eout ⊢
  subst eo ee
  refine ⟨fun hlt => ⟨⟨i0, by omega⟩, by rw [lenB, List.length_drop]; omega, ?_⟩, fun hge => ⟨fun h => ?_, fun h => absurd (by omega) h⟩⟩
  . rintro ⟨x, n, e, _⟩ _ eT
    simp only at eT ⊢
    obtain ⟨m, rfl⟩ : ∃ m, k = m + 1 := ⟨k - 1, by omega⟩
    have hbd : Bys (own.drop en.toNat) := bys_drop hb _
    refine ⟨by decide, fun he => ?_, fun he => ⟨fun h => by omega, fun h => ⟨⟨i0, i1⟩, by rw [lenB, List.length_drop]; omega, ?_⟩⟩⟩
    . subst he
      have ok : (takeD (own.drop en.toNat)).2.2 = 0 := by rw [← eT]
      have h1 := take_inv hbd ok
      have h2 := take_ok hbd ok
      rw [row_step own m en hlt ok] at hr
      rw [← eT] at h1 h2 hr
      simp only at h1 h2 hr
      rw [List.length_drop] at h2
      have hpl := put_len x
      have hll := lng_len (n := (x.2.length : Int))
      refine ⟨by trivial, by trivial, by trivial, by decide, by decide, by omega, by omega, ?_⟩
      rintro ⟨z, _⟩ _ ez
      simp only at ez ⊢
      rw [size_of (by omega) (by omega)] at ez
      rw [wrapK (en + n) (by omega) (by omega), wrapK (en + z) (by omega) (by omega), wrapK (en + z + (x.2.length : Int)) (by omega) (by omega)]
      refine ⟨⟨by trivial, by omega, by omega, by omega, by rw [List.length_append, List.length_singleton]; omega, m, pre ++ [(en, x)], by omega, ?_, ?_⟩, by omega⟩
      . rw [hr]; simp
      . rw [eout]; simp
    . rintro ⟨x2, n2, e2, _⟩ _ eT2
      simp only at eT2 ⊢
      have he2 : e2 = e := by
        have := eT.trans eT2.symm
        simp only [Prod.mk.injEq] at this
        exact this.2.2.symm
      have bad : (takeD (own.drop en.toNat)).2.2 ≠ 0 := by rw [← eT]; exact he
      rw [row_bad own m en hlt bad, ← eT] at hr
      refine ⟨by decide, ?_⟩
      rw [allD, hr, he2]
      simp only
      rw [if_pos he]
  . rw [row_end own k en hge] at hr
    rw [allD, hr]
    simp only
    rw [if_neg (by simp), List.append_nil, eout]
theorem h113 : c_der_All.ok Tryz.prog GL 113 := con_ok (H := {}) (mkEnv_ok (gl := GL) (l := [(130, i130), (129, conSem c_der_Take), (131, conSem c_der_Size)]) (q := [(142, i142)]) (d := []) _ tyOk (by kernel_rfl) ⟨i130_ok, h129.call, h131.call, trivial⟩ ⟨i142_ok, trivial⟩ trivial) (by kernel_rfl) (by kernel_rfl) (Eq.mp e113 k113)
end Go.Proofs.YtgnlcpoeepfdoaaGreatDoor
end
section
namespace Go.Proofs.YtgnlcpoeepfdoaaGreatDoor
open Go Go.Vc Go.Pl Go.Proofs
end Go.Proofs.YtgnlcpoeepfdoaaGreatDoor
end
section
namespace Go.Proofs.YtgnlcpoeepfdoaaGreatDoor
open Go Go.Vc Go.Pl Go.Proofs
set_option linter.unusedVariables false
set_option linter.unusedSimpArgs false
set_option maxRecDepth 20000
end Go.Proofs.YtgnlcpoeepfdoaaGreatDoor
end
section
namespace Go.Proofs.YtgnlcpoeepfdoaaGreatDoor
open Go Go.Vc Go.Pl Go.Proofs
end Go.Proofs.YtgnlcpoeepfdoaaGreatDoor
end
section
namespace Go.Proofs.YtgnlcpoeepfdoaaGreatDoor
open Go Go.Vc Go.Pl Go.Proofs
set_option linter.unusedVariables false
set_option linter.unusedSimpArgs false
end Go.Proofs.YtgnlcpoeepfdoaaGreatDoor
end
