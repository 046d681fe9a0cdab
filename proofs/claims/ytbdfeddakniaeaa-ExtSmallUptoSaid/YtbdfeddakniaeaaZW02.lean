/- Texts of a verified walk, led together: DerA, DerW, DerrA, DerrW. -/
import Derived.Test.YtbdfeddakniaeaaZW01
import Derived.Test.YtbdfeddakniaeaaZV06
set_option linter.unusedVariables false
set_option linter.unusedSimpArgs false
section
namespace Go.Proofs.Ytbdfeddakniaeaa
open Go Go.Vc Go.Pl Go.Proofs
def c_der_isTag : Con := { args := [.dat I64], res := [.dat .bool], pre := fun _ => True, post := fun x y => y.1 = isTagD x.1 }
def c_der_length : Con := { args := [.dat I64], res := [.own 5 U8], pre := fun x => 0 ≤ x.1 ∧ x.1 ≤ 16777215, post := fun x y => y.1 = lngD x.1 }
def c_slices_Clone_byte_byte : Con := { args := [.dat BY], res := [.dat BY], pre := fun x => lenB x.1 ≤ 1000000000, post := fun x y => y.1 = x.1 }
def c_slices_Concat_byte_byte : Con := { args := [.dat (.sl BY)], res := [.own 5 U8], pre := fun x => lenF x.1 ≤ 1000000000, post := fun x y => y.1 = x.1.flatten }
def c_der_Put : Con := { args := [.dat BY, .dat I64, .dat (.sl BY)], res := [.own 5 U8, .dat I64], pre := fun x => lenB x.1 ≤ 900000000, post := fun x y => (y.1, y.2.1) = PutD x.1 x.2.1 x.2.2.1.flatten }
end Go.Proofs.Ytbdfeddakniaeaa
end
section
namespace Go.Proofs.Ytbdfeddakniaeaa
open Go Go.Vc Go.Pl Go.Proofs
set_option linter.unusedVariables false
set_option linter.unusedSimpArgs false
abbrev wrZ (x : Int) : Int := IntKind.wrap IntKind.i64 x
abbrev wiZ (x : Int) : Prop := Kd.wf (Kd.int IntKind.i64) x
abbrev wbZ (x : Bool) : Prop := Kd.wf Kd.bool x
abbrev wyZ (x : List Int) : Prop := Kd.wf (Kd.sl (Kd.int IntKind.u8)) x
abbrev lnZ {α : Type} (x : List α) : Int := (↑(List.length x) : Int)
abbrev q0 := (Int × Unit)
abbrev q1 := (List Int × Unit)
abbrev q2 := (Int × Unit -> List Int × Unit -> Prop)
abbrev q3 := (Int × Unit -> List Int × Unit -> Nat)
abbrev q4 := (Bool × Unit)
abbrev q102 (p0 : q0) := (bif decide ((0 : Int) <= p0.1) then decide (p0.1 <= (255 : Int)) else false)
abbrev q7 (p0 : q0) := ((q102 p0) = true -> ((q102 p0) == true) = true /\ True)
abbrev q8 := (255 : Int)
abbrev q104 := (2 : Int)
abbrev q109 := (8 : Nat)
abbrev q9 (p0 : q0) := (Int.fdiv p0.1 (q104 ^ q109))
abbrev q10 := (256 : Int)
abbrev q11 := (0 : Int)
abbrev q12 := (8 : Int)
abbrev q13 := (9223372036854775807 : Nat)
abbrev q14 := (140737488355328 : Nat)
abbrev q15 := (1000000000 : Nat)
abbrev q16 (p0 : q1) := (wyZ p0.1 /\ True)
abbrev q17 := (0 : Nat)
abbrev q18 := (1 : Nat)
abbrev q108 (p0 : q0) := (Int.toNat p0.1)
abbrev q130 := (Kd.int IntKind.u8)
abbrev q116 := (Kd.dft (Kd.sl q130))
abbrev q105 := (1 : Int)
abbrev q19 (p0 : q0) (p1 : List (List Int) × Unit) (p2 : q1) (p3 : Int × Int × Unit) (p4 : q2) (p5 : q3) := (decide (p0.1 < (lnZ p1.1)) = true -> ((0 : Int) <= p0.1 /\ p0.1 < (lnZ p1.1)) /\
  (0 : Nat) < (1 : Nat) /\ (List.length p2.1 + List.length (List.getD p1.1 (q108 p0) q116)) * (1 : Nat) <= (140737488355328 : Nat) /\ List.length p2.1 + List.length (List.getD p1.1 (q108 p0)
  q116) <= (9223372036854775807 : Nat) /\ (lnZ p1.1) = (lnZ p1.1) /\ p1.1 = p1.1 /\ Value.bool false = Value.bool false /\ p3.1 = p3.1 /\ (lnZ p1.1) = (lnZ p1.1) /\ p1.1 = p1.1 /\ p3.2.1 =
  p3.2.1 /\ Value.slice none (0 : Nat) (0 : Nat) = Value.slice none (0 : Nat) (0 : Nat) /\ p1.1 = p1.1 /\ p4 (wrZ (p0.1 + q105), ()) (p2.1 ++ List.getD p1.1 (q108 p0) q116, ()) /\ p5 (wrZ
  (p0.1 + q105), ()) (p2.1 ++ List.getD p1.1 (q108 p0) q116, ()) < p5 p0 p2)
abbrev q20 (p0 : Int × Int × Unit) (p1 : List (List Int) × Unit) := (p0.2.1 + (lnZ (List.getD p1.1 (Int.toNat p0.1) q116)))
abbrev q21 (p0 : Int × Int × Unit) := (p0.2.1 - wrZ ((0 : Int) - (0 : Int)))
abbrev q22 := (Kd.dft q130)
abbrev q23 := (Kd.sl q130)
abbrev q24 (p0 : List Int × Int × List (List Int) × Unit) (p1 : Int × Int × Int × Unit) := (lnZ (List.getD p0.2.2.1 (Int.toNat p1.1) q116))
abbrev q103 (p0 : q0) := ((0 : Int) <= p0.1)
def t128 : Prop :=
  ∀ (x : q0), (wiZ x.1 /\ True) -> True -> (decide (q103 x) = true -> True) /\ (decide (q103 x) = true -> (decide (q103 x) == true) = true /\ True) /\ (decide (q103 x) = true -> (decide (q103
  x) == true) = true) /\ ((q102 x) = true -> True) /\ (q7 x) /\ (q7 x) /\ ((q102 x) = true -> ((q102 x) == true) = true) /\ (bif bif decide (q103 x) then decide (x.1 <= q8) else false then
  decide (wrZ (↑(BitVec.toNat (BitVec.ofInt (64 : Nat) x.1 &&& BitVec.ofInt (64 : Nat) (31 : Int))) : Int) ≠ (31 : Int)) else false) = isTagD x.1
theorem e128 : t128 = Con.vc c_der_isTag GL (mkEnv ty [] [] [] [0, 2]) {} Try.f128.ntmps Try.f128.results.toList (bodyOf Try.f128) := by kernel_rfl
theorem k128 : t128 := by
  unfold t128
  delta q0 wiZ q103 q102 q7 q8 wrZ
  rintro ⟨t, _⟩ hx hp
  try dsimp +instances only [dft_int, dft_sl, dft_str]
  simp only [true_and, and_true, eq_self_iff_true, implies_true, reduceCtorEq, false_implies, true_implies, decide_eq_true_eq, decide_eq_false_iff_not, beq_self_eq_true, Bool.not_eq_true', ne_eq, Decidable.not_not, List.nil_append, List.length_singleton, List.length_cons, List.length_nil, Nat.zero_add, Nat.add_zero, Nat.mul_one, and_self, beq_iff_eq, Bool.not_true, Bool.not_false, Bool.not_eq_false', Bool.cond_false_right, Bool.and_eq_true, imp_self, Bool.not_eq_true, Bool.cond_true_left, Bool.or_eq_true]
  exact isTag_eq t
theorem h128 : c_der_isTag.ok Try.prog GL 128 := con_ok (H := {}) (mkEnv_ok (gl := GL) (l := []) (q := []) (d := []) _ tyOk (by kernel_rfl) trivial trivial trivial) (by kernel_rfl) (by kernel_rfl) (Eq.mp e128 k128)
def t130 : Prop :=
  ∀ (x : q0), (wiZ x.1 /\ True) -> q11 <= x.1 /\ x.1 <= (16777215 : Int) -> (decide (x.1 < (128 : Int)) = true -> [IntKind.wrap IntKind.u8 x.1] = lngD x.1) /\ (decide (x.1 < (128 : Int)) =
  false -> (decide (x.1 < q10) = true -> [(129 : Int), IntKind.wrap IntKind.u8 x.1] = lngD x.1) /\ (decide (x.1 < q10) = false -> (decide (x.1 < (65536 : Int)) = true -> q11 <= q12 /\ [(130 :
  Int), IntKind.wrap IntKind.u8 (q9 x), IntKind.wrap IntKind.u8 x.1] = lngD x.1) /\ (decide (x.1 < (65536 : Int)) = false -> q11 <= (16 : Int) /\ q11 <= q12 /\ [(131 : Int), IntKind.wrap
  IntKind.u8 (Int.fdiv x.1 (q104 ^ (16 : Nat))), IntKind.wrap IntKind.u8 (q9 x), IntKind.wrap IntKind.u8 x.1] = lngD x.1)))
theorem e130 : t130 = Con.vc c_der_length GL (mkEnv ty [] [] [] [0, 2, 3, 9, 15]) {} Try.f130.ntmps Try.f130.results.toList (bodyOf Try.f130) := by kernel_rfl
theorem k130 : t130 := by
  unfold t130
  delta q0 wiZ q11 q10 q12 q9 q104 q109
  rintro ⟨n, _⟩ hx hp
  obtain ⟨h0, h1⟩ := hp
  simp only at h0 h1
  try dsimp +instances only [dft_int, dft_sl, dft_str]
  simp only [true_and, and_true, eq_self_iff_true, implies_true, reduceCtorEq, false_implies, true_implies, decide_eq_true_eq, decide_eq_false_iff_not, beq_self_eq_true, Bool.not_eq_true', ne_eq, Decidable.not_not, List.nil_append, List.length_singleton, List.length_cons, List.length_nil, Nat.zero_add, Nat.add_zero, Nat.mul_one, and_self, beq_iff_eq, Bool.not_true, Bool.not_false, Bool.not_eq_false', Bool.cond_false_right, Bool.and_eq_true, imp_self, Bool.not_eq_true, Bool.cond_true_left, Bool.or_eq_true]
  have e8 := (fdiv_pow h0).1
  have e16 := (fdiv_pow h0).2
  rw [e8, e16, wrap_u8m, wrap_u8m, wrap_u8m]
  refine ⟨fun h => ?_, fun h => ⟨fun h2 => ?_, fun h2 => ⟨fun h3 => ⟨by decide, ?_⟩, fun h3 => ⟨by decide, by decide, ?_⟩⟩⟩⟩
  . rw [lngD, if_pos h, show n % 256 = n by omega]
  . rw [lngD, if_neg h, if_pos h2, show n % 256 = n by omega]
  . rw [lngD, if_neg h, if_neg h2, if_pos h3, show n / 256 % 256 = n / 256 by omega]
  . rw [lngD, if_neg h, if_neg h2, if_neg h3, show n / 65536 % 256 = n / 65536 by omega]
theorem h130 : c_der_length.ok Try.prog GL 130 := con_ok (H := {}) (mkEnv_ok (gl := GL) (l := []) (q := []) (d := []) _ tyOk (by kernel_rfl) trivial trivial trivial) (by kernel_rfl) (by kernel_rfl) (Eq.mp e130 k130)
def t91 : Prop :=
  ∀ (x : q1), (q16 x) -> lenB x.1 <= q15 -> ∀ (b : Bool), (b = true -> x.1 = []) -> (b = true -> [] = x.1) /\ (b = false -> q17 < q18 /\ (q17 + List.length x.1) * q18 <= q14 /\ q17 +
  List.length x.1 <= q13 /\ [] ++ x.1 = x.1)
theorem e91 : t91 = Con.vc c_slices_Clone_byte_byte GL (mkEnv ty [] [] [] [0, 2, 4]) {} Try.f91.ntmps Try.f91.results.toList (bodyOf Try.f91) := by kernel_rfl
theorem k91 : t91 := by
  unfold t91
  delta q1 q16 q15 q17 q18 q14 q13 wyZ
  rintro ⟨l, _⟩ hx hp
  have hp : l.length ≤ 1000000000 := hp
  try dsimp +instances only [dft_int, dft_sl, dft_str]
  simp only [true_and, and_true, eq_self_iff_true, implies_true, reduceCtorEq, false_implies, true_implies, decide_eq_true_eq, decide_eq_false_iff_not, beq_self_eq_true, Bool.not_eq_true', ne_eq, Decidable.not_not, List.nil_append, List.length_singleton, List.length_cons, List.length_nil, Nat.zero_add, Nat.add_zero, Nat.mul_one, and_self, beq_iff_eq, Bool.not_true, Bool.not_false, Bool.not_eq_false', Bool.cond_false_right, Bool.and_eq_true, imp_self, Bool.not_eq_true, Bool.cond_true_left, Bool.or_eq_true]
  intro b hb
  exact ⟨fun h => (hb h).symm, fun _ => ⟨by decide, by omega, by omega⟩⟩
theorem h91 : c_slices_Clone_byte_byte.ok Try.prog GL 91 := con_ok (H := {}) (mkEnv_ok (gl := GL) (l := []) (q := []) (d := []) _ tyOk (by kernel_rfl) trivial trivial trivial) (by kernel_rfl) (by kernel_rfl) (Eq.mp e91 k91)
noncomputable def i143 : CallSem := cutSem <| vcFn (mkEnv ty [] [] [] [0, 1, 4, 6, 16]) {} Try.f143.ntmps Try.f143.results.toList (bodyOf Try.f143)
theorem i143_ok : CallOk Try.prog GL 143 i143 := cut_ok <| inl_ok {} (mkEnv_ok (gl := GL) (l := []) (q := []) (d := []) _ tyOk (by kernel_rfl) trivial trivial trivial) (by kernel_rfl) (by kernel_rfl)
def t129 : Prop :=
  ∀ (x : List (List Int) × Unit), (Kd.wf (Kd.sl q23) x.1 /\ True) -> lenF x.1 <= q15 -> ∃ (I : Int × Int × Unit -> Unit -> Prop), ∃ (μ : Int × Int × Unit -> Unit -> Nat), ((lnZ x.1) = (lnZ
  x.1) /\ x.1 = x.1 /\ Value.slice none q17 q17 = Value.slice none q17 q17 /\ x.1 = x.1 /\ I (q11, q11, ()) ()) /\ ∀ (y : Int × Int × Unit) (z : Unit), (wiZ y.1 /\ wiZ y.2.1 /\ True) -> True
  -> I y z -> (decide (y.1 < (lnZ x.1)) = true -> (q11 <= y.1 /\ y.1 < (lnZ x.1)) /\ (decide (wrZ (q20 y x) < q11) = true -> False) /\ (decide (wrZ (q20 y x) < q11) = false -> (lnZ x.1) =
  (lnZ x.1) /\ x.1 = x.1 /\ Value.slice none q17 q17 = Value.slice none q17 q17 /\ x.1 = x.1 /\ I (wrZ (y.1 + q105), wrZ (q20 y x), ()) () /\ μ (wrZ (y.1 + q105), wrZ (q20 y x), ()) () < μ y
  z)) /\ (decide (y.1 < (lnZ x.1)) = false -> (decide (y.2.1 < q11) = true -> False) /\ (decide (y.2.1 < q11) = false -> (decide (q11 < wrZ (q21 y)) = true -> (q11 <= q11 /\ q11 <= (↑q17 :
  Int)) /\ q11 < wrZ (q21 y) /\ wrZ (q21 y) <= (1000000000 : Int) /\ (q11 <= q11 /\ q11 <= (lnZ (List.replicate (Int.toNat (wrZ (q21 y))) q22))) /\ q17 = q17 /\ ∃ (I : q2), ∃ (μ : q3), ((lnZ
  x.1) = (lnZ x.1) /\ x.1 = x.1 /\ Value.bool false = Value.bool false /\ y.1 = y.1 /\ (lnZ x.1) = (lnZ x.1) /\ x.1 = x.1 /\ y.2.1 = y.2.1 /\ Value.slice none q17 q17 = Value.slice none q17
  q17 /\ x.1 = x.1 /\ I (q11, ()) (List.take (q17 - q17) (List.replicate (Int.toNat (wrZ (q21 y))) q22), ())) /\ ∀ (y_1 : q0) (z : q1), (wiZ y_1.1 /\ True) -> (q16 z) -> I y_1 z -> (q19 y_1 x
  z y I μ) /\ (decide (y_1.1 < (lnZ x.1)) = false -> z.1 = List.flatten x.1)) /\ (decide (q11 < wrZ (q21 y)) = false -> ∃ (I : q2), ∃ (μ : q3), ((lnZ x.1) = (lnZ x.1) /\ x.1 = x.1 /\
  Value.bool false = Value.bool false /\ y.1 = y.1 /\ (lnZ x.1) = (lnZ x.1) /\ x.1 = x.1 /\ y.2.1 = y.2.1 /\ Value.slice none q17 q17 = Value.slice none q17 q17 /\ x.1 = x.1 /\ I (q11, ())
  ([], ())) /\ ∀ (y_1 : q0) (z : q1), (wiZ y_1.1 /\ True) -> (q16 z) -> I y_1 z -> (q19 y_1 x z y I μ) /\ (decide (y_1.1 < (lnZ x.1)) = false -> z.1 = List.flatten x.1))))
theorem e129 : t129 = Con.vc c_slices_Concat_byte_byte GL (mkEnv ty [(143, i143)] [] [] [0, 2, 3, 5, 6, 8, 9, 10, 11, 12, 20, 25, 26, 27, 28]) {} Try.f129.ntmps Try.f129.results.toList (bodyOf Try.f129) := by kernel_rfl
theorem k129 : t129 := by
  unfold t129
  delta q23 q15 lnZ q17 q11 wiZ wrZ q20 q105 q21 q22 q2 q3 q0 q1 q16 q19 q130 q116 wyZ q108
  rintro ⟨xs, _⟩ hx hp
  have hp : xs.flatten.length ≤ 1000000000 := hp
  have hl : xs.length ≤ 9223372036854775807 := hx.1.1
  try dsimp +instances only [dft_int, dft_sl, dft_str]
  simp only [true_and, and_true, eq_self_iff_true, implies_true, reduceCtorEq, false_implies, true_implies, decide_eq_true_eq, decide_eq_false_iff_not, beq_self_eq_true, Bool.not_eq_true', ne_eq, Decidable.not_not, List.nil_append, List.length_singleton, List.length_cons, List.length_nil, Nat.zero_add, Nat.add_zero, Nat.mul_one, and_self, beq_iff_eq, Bool.not_true, Bool.not_false, Bool.not_eq_false', Bool.cond_false_right, Bool.and_eq_true, imp_self, Bool.not_eq_true, Bool.cond_true_left, Bool.or_eq_true]
  refine ⟨fun y z => 0 ≤ y.1 ∧ y.1 ≤ xs.length ∧ y.2.1 = ((xs.take y.1.toNat).flatten.length : Int), fun y z => xs.length - y.1.toNat, ⟨Int.le_refl 0, by simp only; omega, by simp⟩, ?_⟩
  rintro ⟨i, s, _⟩ z hy ⟨h0, h1, h2⟩
  simp only at h0 h1 h2 ⊢
  have hs := flat_bound xs i.toNat
  refine ⟨fun hlt => ?_, fun hge => ⟨fun h => by omega, fun _ => ⟨fun hpos => ?_, fun _ => flat_loop xs hl hp [] rfl⟩⟩⟩
  . have e := take_flat xs i.toNat (by omega)
    have hfl := flat_bound xs (i.toNat + 1)
    rw [e, List.length_append] at hfl
    have hw : IntKind.wrap .i64 (i + 1) = i + 1 := wrapM _ (by omega) (by omega)
    have hw2 : IntKind.wrap .i64 (s + ((xs.getD i.toNat []).length : Int)) = s + ((xs.getD i.toNat []).length : Int) := wrapK _ (by omega) (by omega)
    rw [hw, hw2]
    refine ⟨⟨h0, hlt⟩, fun h => by omega, fun _ => ⟨⟨by omega, by omega, ?_⟩, by omega⟩⟩
    rw [show (i + 1).toNat = i.toNat + 1 by omega, e, List.length_append]
    omega
  . have hw3 : IntKind.wrap .i64 (s - IntKind.wrap .i64 (0 - 0)) = s := by rw [show IntKind.wrap .i64 (0 - 0) = 0 by decide, wrapK _ (by omega) (by omega)]; omega
    rw [hw3] at hpos ⊢
    exact ⟨⟨by decide, by decide⟩, hpos, by omega, ⟨by decide, by omega⟩, flat_loop xs hl hp _ (by simp)⟩
theorem h129 : c_slices_Concat_byte_byte.ok Try.prog GL 129 := con_ok (H := {}) (mkEnv_ok (gl := GL) (l := [(143, i143)]) (q := []) (d := []) _ tyOk (by kernel_rfl) ⟨i143_ok, trivial⟩ trivial trivial) (by kernel_rfl) (by kernel_rfl) (Eq.mp e129 k129)
def t101 : Prop :=
  ∀ (x : List Int × Int × List (List Int) × Unit), (wyZ x.1 /\ wiZ x.2.1 /\ Kd.wf (Kd.sl q23) x.2.2.1 /\ True) -> lenB x.1 <= (900000000 : Nat) -> True /\ (∀ (y : q4), (wbZ y.1 /\ True) ->
  y.1 = isTagD x.2.1 -> ((!y.1) = true -> ([], q104) = PutD x.1 x.2.1 (List.flatten x.2.2.1)) /\ ((!y.1) = false -> ∃ (I : Int × Int × Int × Unit -> List Int × Unit -> Prop), ∃ (μ : Int × Int
  × Int × Unit -> List Int × Unit -> Nat), ((lnZ x.2.2.1) = (lnZ x.2.2.1) /\ x.2.2.1 = x.2.2.1 /\ Value.bool false = Value.bool false /\ x.1 = x.1 /\ x.2.1 = x.2.1 /\ x.2.2.1 = x.2.2.1 /\ I
  (q11, q11, q11, ()) ([], ())) /\ ∀ (y : Int × Int × Int × Unit) (z : q1), (wiZ y.1 /\ wiZ y.2.1 /\ wiZ y.2.2.1 /\ True) -> (q16 z) -> I y z -> (decide (y.1 < (lnZ x.2.2.1)) = true -> (q11
  <= y.1 /\ y.1 < (lnZ x.2.2.1)) /\ (decide (wrZ ((16777215 : Int) - y.2.1) < (q24 x y)) = true -> ([], (3 : Int)) = PutD x.1 x.2.1 (List.flatten x.2.2.1)) /\ (decide (wrZ ((16777215 : Int) -
  y.2.1) < (q24 x y)) = false -> (lnZ x.2.2.1) = (lnZ x.2.2.1) /\ x.2.2.1 = x.2.2.1 /\ Value.bool false = Value.bool false /\ x.1 = x.1 /\ x.2.1 = x.2.1 /\ x.2.2.1 = x.2.2.1 /\ I (wrZ (y.1 +
  q105), wrZ (y.2.1 + (q24 x y)), y.2.2.1, ()) (z.1, ()) /\ μ (wrZ (y.1 + q105), wrZ (y.2.1 + (q24 x y)), y.2.2.1, ()) (z.1, ()) < μ y z)) /\ (decide (y.1 < (lnZ x.2.2.1)) = false -> (q11 <=
  y.2.1 /\ y.2.1 <= (16777215 : Int)) /\ (∀ (y_1 : q1), (q16 y_1) -> y_1.1 = lngD y.2.1 -> lenF [x.1, [IntKind.wrap IntKind.u8 x.2.1], y_1.1] <= q15 /\ (∀ (y : q1), (q16 y) -> y.1 =
  List.flatten [x.1, [IntKind.wrap IntKind.u8 x.2.1], y_1.1] -> lenF x.2.2.1 <= q15 /\ (∀ (y_2 : q1), (q16 y_2) -> y_2.1 = List.flatten x.2.2.1 -> lenF [y.1, y_2.1] <= q15 /\ (∀ (y_3 : q1),
  (q16 y_3) -> y_3.1 = List.flatten [y.1, y_2.1] -> (y_3.1, q11) = PutD x.1 x.2.1 (List.flatten x.2.2.1)) /\ True) /\ True) /\ True) /\ True))) /\ True
theorem e101 : t101 = Con.vc c_der_Put GL (mkEnv ty [(128, conSem c_der_isTag), (130, conSem c_der_length), (129, conSem c_slices_Concat_byte_byte)] [] [] [0, 1, 2, 6, 7, 8, 10, 11, 14, 15, 16, 17, 18, 25]) {} Try.f101.ntmps Try.f101.results.toList (bodyOf Try.f101) := by kernel_rfl
theorem k101 : t101 := by
  unfold t101
  delta wyZ wiZ q23 q4 wbZ q104 lnZ q11 q1 q16 wrZ q24 q105 q15 q130 q116
  rintro ⟨b, t, cs, _⟩ hx hp
  have hp : b.length ≤ 900000000 := hp
  have hcl : cs.length ≤ 9223372036854775807 := hx.2.2.1.1
  try dsimp +instances only [dft_int, dft_sl, dft_str]
  simp only [true_and, and_true, eq_self_iff_true, implies_true, reduceCtorEq, false_implies, true_implies, decide_eq_true_eq, decide_eq_false_iff_not, beq_self_eq_true, Bool.not_eq_true', ne_eq, Decidable.not_not, List.nil_append, List.length_singleton, List.length_cons, List.length_nil, Nat.zero_add, Nat.add_zero, Nat.mul_one, and_self, beq_iff_eq, Bool.not_true, Bool.not_false, Bool.not_eq_false', Bool.cond_false_right, Bool.and_eq_true, imp_self, Bool.not_eq_true, Bool.cond_true_left, Bool.or_eq_true]
  rintro ⟨q, _⟩ _ eq
  simp only at eq ⊢
  subst eq
  refine ⟨fun h => by rw [PutD, if_pos h], fun h => ?_⟩
  refine ⟨fun y _ => 0 ≤ y.1 ∧ y.1 ≤ cs.length ∧ y.2.1 = ((cs.take y.1.toNat).flatten.length : Int) ∧ y.2.1 ≤ 16777215, fun y _ => ((cs.length : Int) - y.1).toNat, ⟨Int.le_refl 0, by simp only; omega, by simp, by decide⟩, ?_⟩
  rintro ⟨i, s, k, _⟩ _ _ _ ⟨h0, h1, h2, h3⟩
  simp only at h0 h1 h2 h3 ⊢
  refine ⟨fun hlt => ?_, fun hge => ?_⟩
  . have e := take_flat cs i.toNat (by omega)
    have hl := flat_bound cs (i.toNat + 1)
    rw [e, List.length_append] at hl
    rw [wrapK (16777215 - s) (by omega) (by omega), wrapM (i + 1) (by omega) (by omega)]
    refine ⟨⟨h0, hlt⟩, fun hb => ?_, fun hb => ?_⟩
    . rw [PutD, if_neg (by rw [h]; decide), if_pos (by omega)]
    . rw [wrapK (s + ((cs.getD i.toNat []).length : Int)) (by omega) (by omega)]
      refine ⟨⟨by omega, by omega, ?_, by omega⟩, by omega⟩
      rw [show (i + 1).toNat = i.toNat + 1 by omega, e, List.length_append]
      omega
  . have hs : s = (cs.flatten.length : Int) := by rw [h2, List.take_of_length_le (by omega)]
    have hll := lng_len (n := s)
    refine ⟨⟨by omega, h3⟩, ?_⟩
    rintro ⟨l, _⟩ _ el
    simp only at el ⊢
    subst el
    refine ⟨by simp only [lenF, List.flatten_cons, List.flatten_nil, List.length_append, List.length_cons, List.length_nil]; omega, ?_⟩
    rintro ⟨o, _⟩ _ eo
    simp only at eo ⊢
    refine ⟨by rw [lenF]; omega, ?_⟩
    rintro ⟨c, _⟩ _ ec
    simp only at ec ⊢
    have hol : o.length = b.length + 1 + (lngD s).length := by rw [eo]; simp; omega
    refine ⟨by simp only [lenF, List.flatten_cons, List.flatten_nil, List.length_append, List.length_nil]; rw [ec]; omega, ?_⟩
    rintro ⟨r, _⟩ _ er
    simp only at er ⊢
    obtain ⟨t0, t1, _⟩ := tag_range h
    rw [PutD, if_neg (by rw [h]; decide), if_neg (by omega), er, eo, ec, wrap8 t t0 t1, putB]
    simp only
    rw [← hs]
    simp
theorem h101 : c_der_Put.ok Try.prog GL 101 := con_ok (H := {}) (mkEnv_ok (gl := GL) (l := [(128, conSem c_der_isTag), (130, conSem c_der_length), (129, conSem c_slices_Concat_byte_byte)]) (q := []) (d := []) _ tyOk (by kernel_rfl) ⟨h128.call, h130.call, h129.call, trivial⟩ trivial trivial) (by kernel_rfl) (by kernel_rfl) (Eq.mp e101 k101)
end Go.Proofs.Ytbdfeddakniaeaa
end
section
namespace Go.Proofs.Ytbdfeddakniaeaa
open Go Go.Vc Go.Pl Go.Proofs
def c_r01_Length : Con := { args := [.dat I64], res := [.own 5 U8], pre := fun x => 0 ≤ x.1 ∧ x.1 ≤ 16777215, post := fun x y => y.1 = lngD x.1 }
def c_r01_Bytes : Con := { args := [.dat ET], res := [.own 5 U8], pre := fun x => lenB x.1.2 ≤ 16777215 ∧ 0 ≤ x.1.1 ∧ x.1.1 ≤ 255, post := fun x y => y.1 = putB x.1 }
end Go.Proofs.Ytbdfeddakniaeaa
end
section
namespace Go.Proofs.Ytbdfeddakniaeaa
open Go Go.Vc Go.Pl Go.Proofs
set_option linter.unusedVariables false
set_option linter.unusedSimpArgs false
set_option maxRecDepth 20000
abbrev q25 := (Kd.int IntKind.i64)
abbrev q26 := (16777215 : Nat)
def t131 : Prop :=
  ∀ (x : q0), (wiZ x.1 /\ True) -> q11 <= x.1 /\ x.1 <= (16777215 : Int) -> (decide (x.1 < (128 : Int)) = true -> [IntKind.wrap IntKind.u8 x.1] = lngD x.1) /\ (decide (x.1 < (128 : Int)) =
  false -> ∃ (I : q2), ∃ (μ : q3), (Value.bool false = Value.bool false /\ Value.slice none q17 q17 = Value.slice none q17 q17 /\ I (x.1, ()) ([], ())) /\ ∀ (y : q0) (z : q1), (wiZ y.1 /\
  True) -> (q16 z) -> I y z -> (decide (q11 < y.1) = true -> q10 ≠ q11 /\ q17 < q18 /\ (List.length [IntKind.wrap IntKind.u8 (Int.tmod y.1 q10)] + List.length z.1) * q18 <= q14 /\ List.length
  [IntKind.wrap IntKind.u8 (Int.tmod y.1 q10)] + List.length z.1 <= q13 /\ q10 ≠ q11 /\ Value.bool false = Value.bool false /\ Value.slice none q17 q17 = Value.slice none q17 q17 /\ I (wrZ
  (Int.tdiv y.1 q10), ()) ([IntKind.wrap IntKind.u8 (Int.tmod y.1 q10)] ++ z.1, ()) /\ μ (wrZ (Int.tdiv y.1 q10), ()) ([IntKind.wrap IntKind.u8 (Int.tmod y.1 q10)] ++ z.1, ()) < μ y z) /\
  (decide (q11 < y.1) = false -> q17 < q18 /\ (List.length [IntKind.wrap IntKind.u8 (wrZ ((128 : Int) + (lnZ z.1)))] + List.length z.1) * q18 <= q14 /\ List.length [IntKind.wrap IntKind.u8
  (wrZ ((128 : Int) + (lnZ z.1)))] + List.length z.1 <= q13 /\ [IntKind.wrap IntKind.u8 (wrZ ((128 : Int) + (lnZ z.1)))] ++ z.1 = lngD x.1))
theorem e131 : t131 = Con.vc c_r01_Length GL (mkEnv ty [] [] [] [0, 2, 3, 5, 10]) {} Try.f131.ntmps Try.f131.results.toList (bodyOf Try.f131) := by kernel_rfl
theorem k131 : t131 := by
  unfold t131
  delta q0 wiZ q11 q2 q3 q17 q1 q16 q10 q18 q14 q13 wrZ lnZ wyZ
  rintro ⟨n, _⟩ hx hp
  obtain ⟨h0, h1⟩ := hp
  simp only at h0 h1
  try dsimp +instances only [dft_int, dft_sl, dft_str]
  simp only [true_and, and_true, eq_self_iff_true, implies_true, reduceCtorEq, false_implies, true_implies, decide_eq_true_eq, decide_eq_false_iff_not, beq_self_eq_true, Bool.not_eq_true', ne_eq, Decidable.not_not, List.nil_append, List.length_singleton, List.length_cons, List.length_nil, Nat.zero_add, Nat.add_zero, Nat.mul_one, and_self, beq_iff_eq, Bool.not_true, Bool.not_false, Bool.not_eq_false', Bool.cond_false_right, Bool.and_eq_true, imp_self, Bool.not_eq_true, Bool.cond_true_left, Bool.or_eq_true]
  refine ⟨fun h => by rw [lngD, if_pos h, wrap_u8m, show n % 256 = n by omega], fun h => ?_⟩
  refine ⟨fun y z => (y.1 = n ∧ z.1 = []) ∨ (y.1 = n / 256 ∧ z.1 = [n % 256]) ∨ (0 < n / 256 ∧ y.1 = n / 65536 ∧ z.1 = [n / 256 % 256, n % 256]) ∨ (0 < n / 65536 ∧ y.1 = 0 ∧ z.1 = [n / 65536, n / 256 % 256, n % 256]), fun y _ => y.1.toNat, .inl ⟨rfl, rfl⟩, ?_⟩
  rintro ⟨m, _⟩ ⟨z, _⟩ _ _ hI
  simp only at hI ⊢
  refine ⟨fun hlt => ?_, fun hge => ?_⟩
  . have hm : IntKind.wrap .i64 (m.tdiv 256) = m / 256 := by
      rw [Int.tdiv_eq_ediv_of_nonneg (by omega), wrapK _ (by omega) (by omega)]
    have hm2 : IntKind.wrap .u8 (m.tmod 256) = m % 256 := by
      rw [Int.tmod_eq_emod_of_nonneg (by omega), wrap_u8m]
      omega
    rw [hm, hm2]
    rcases hI with ⟨rfl, rfl⟩ | ⟨rfl, rfl⟩ | ⟨g, rfl, rfl⟩ | ⟨g, rfl, rfl⟩
    . exact ⟨by decide, by decide, by simp, by simp, by decide, .inr (.inl ⟨rfl, rfl⟩), by omega⟩
    . exact ⟨by decide, by decide, by simp, by simp, by decide, .inr (.inr (.inl ⟨hlt, by omega, rfl⟩)), by omega⟩
    . refine ⟨by decide, by decide, by simp, by simp, by decide, .inr (.inr (.inr ⟨hlt, by omega, ?_⟩)), by omega⟩
      rw [show n / 65536 % 256 = n / 65536 by omega]
      rfl
    . omega
  . rcases hI with ⟨rfl, rfl⟩ | ⟨rfl, rfl⟩ | ⟨g, rfl, rfl⟩ | ⟨g, rfl, rfl⟩
    . omega
    . refine ⟨by decide, by simp, by simp, ?_⟩
      rw [lngD, if_neg h, if_pos (by omega), show n % 256 = n by omega]
      rfl
    . refine ⟨by decide, by simp, by simp, ?_⟩
      rw [lngD, if_neg h, if_neg (by omega), if_pos (by omega), show n / 256 % 256 = n / 256 by omega]
      rfl
    . refine ⟨by decide, by simp, by simp, ?_⟩
      rw [lngD, if_neg h, if_neg (by omega), if_neg (by omega)]
      rfl
theorem h131 : c_r01_Length.ok Try.prog GL 131 := con_ok (H := {}) (mkEnv_ok (gl := GL) (l := []) (q := []) (d := []) _ tyOk (by kernel_rfl) trivial trivial trivial) (by kernel_rfl) (by kernel_rfl) (Eq.mp e131 k131)
def t102 : Prop :=
  ∀ (x : (Int × List Int) × Unit), (Kd.wf (Kd.pair q25 q23) x.1 /\ True) -> lenB x.1.2 <= q26 /\ q11 <= x.1.1 /\ x.1.1 <= q8 -> List.length [SV.dat q25 x.1.1, SV.dat q23 x.1.2] <= (65536 :
  Nat) /\ q17 < q18 /\ (q17 + List.length [IntKind.wrap IntKind.u8 x.1.1]) * q18 <= q14 /\ q17 + List.length [IntKind.wrap IntKind.u8 x.1.1] <= q13 /\ (q11 <= (lnZ x.1.2) /\ (lnZ x.1.2) <=
  (16777215 : Int)) /\ (∀ (y : q1), (q16 y) -> y.1 = lngD (lnZ x.1.2) -> q17 < q18 /\ (List.length ([] ++ [IntKind.wrap IntKind.u8 x.1.1]) + List.length y.1) * q18 <= q14 /\ List.length ([]
  ++ [IntKind.wrap IntKind.u8 x.1.1]) + List.length y.1 <= q13 /\ q17 < q18 /\ (List.length ([] ++ [IntKind.wrap IntKind.u8 x.1.1] ++ y.1) + List.length x.1.2) * q18 <= q14 /\ List.length ([]
  ++ [IntKind.wrap IntKind.u8 x.1.1] ++ y.1) + List.length x.1.2 <= q13 /\ [] ++ [IntKind.wrap IntKind.u8 x.1.1] ++ y.1 ++ x.1.2 = putB x.1) /\ True
theorem e102 : t102 = Con.vc c_r01_Bytes GL (mkEnv ty [(131, conSem c_r01_Length)] [] [] [0, 1, 2, 3]) {} Try.f102.ntmps Try.f102.results.toList (bodyOf Try.f102) := by kernel_rfl
theorem k102 : t102 := by
  unfold t102
  delta q25 q23 q26 q11 q8 q17 q18 q14 q13 lnZ q1 q16 q130 wyZ
  rintro ⟨⟨t, c⟩, _⟩ hx hp
  obtain ⟨h1, h2, h3⟩ := hp
  simp only [lenB] at h1 h2 h3
  try dsimp +instances only [dft_int, dft_sl, dft_str]
  simp only [true_and, and_true, eq_self_iff_true, implies_true, reduceCtorEq, false_implies, true_implies, decide_eq_true_eq, decide_eq_false_iff_not, beq_self_eq_true, Bool.not_eq_true', ne_eq, Decidable.not_not, List.nil_append, List.length_singleton, List.length_cons, List.length_nil, Nat.zero_add, Nat.add_zero, Nat.mul_one, and_self, beq_iff_eq, Bool.not_true, Bool.not_false, Bool.not_eq_false', Bool.cond_false_right, Bool.and_eq_true, imp_self, Bool.not_eq_true, Bool.cond_true_left, Bool.or_eq_true]
  have hll := lng_len (n := (c.length : Int))
  refine ⟨by decide, by decide, by decide, by decide, ⟨by omega, by omega⟩, ?_⟩
  rintro ⟨l, _⟩ _ el
  simp only at el ⊢
  subst el
  refine ⟨by decide, by omega, by omega, by decide, by simp only [List.length_append, List.length_singleton]; omega, by simp only [List.length_append, List.length_singleton]; omega, ?_⟩
  rw [wrap8 t h2 h3, putB]
  simp
theorem h102 : c_r01_Bytes.ok Try.prog GL 102 := con_ok (H := {}) (mkEnv_ok (gl := GL) (l := [(131, conSem c_r01_Length)]) (q := []) (d := []) _ tyOk (by kernel_rfl) ⟨h131.call, trivial⟩ trivial trivial) (by kernel_rfl) (by kernel_rfl) (Eq.mp e102 k102)
end Go.Proofs.Ytbdfeddakniaeaa
end
