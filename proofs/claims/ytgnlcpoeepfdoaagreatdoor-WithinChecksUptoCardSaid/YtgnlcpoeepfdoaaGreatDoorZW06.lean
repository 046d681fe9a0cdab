/- Texts of a verified walk, led together: Name3A, Name3W, Name4A, Name4W. -/
import Derived.Test.YtgnlcpoeepfdoaaGreatDoorZW05
import Derived.Test.YtgnlcpoeepfdoaaGreatDoorZV11
set_option linter.unusedVariables false
set_option linter.unusedSimpArgs false
section
namespace Go.Proofs.YtgnlcpoeepfdoaaGreatDoor
open Go Go.Vc Go.Pl Go.Proofs
def c_slices_Equal_int_int : Con := { args := [.dat (.sl I64), .dat (.sl I64)], res := [.dat .bool], pre := fun _ => True, post := fun x y => y.1 = decide (x.1 = x.2.1) }
def c_oid_Begins : Con := { args := [.dat (.sl I64), .dat (.sl I64)], res := [.dat .bool], pre := fun _ => True, post := fun x y => y.1 = decide (x.1.take x.2.1.length = x.2.1) }
def c_name_only : Con := { args := [.dat BY, .dat I64], res := [.dat BY, .dat .bool], pre := fun x => lenB x.1 ≤ 100000000, post := fun x y => y.1 = (oneD x.1).1.2 ∧ y.2.1 = (decide ((oneD x.1).2 = 0) && decide ((oneD x.1).1.1 = x.2.1)) }
def c_r12_put : Con := { args := [.dat I64, .dat BY], res := [.own 5 U8], pre := fun x => 0 ≤ x.1 ∧ x.1 ≤ 255 ∧ lenB x.2.1 ≤ 16777215, post := fun x y => y.1 = putB (x.1, x.2.1) }
def c_r12_Encode : Con := { args := [.dat (.sl AT)], res := [.own 5 U8, .dat I64], pre := fun x => x.1.length ≤ 1000000000 ∧ ∀ a ∈ x.1, a.2.length ≤ 100000000, post := fun x y => (y.1, y.2.1) = EncN x.1 }
def c_r12_inside : Con := { args := [.dat BY, .dat I64], res := [.own 78 ET, .dat .bool], pre := fun x => lenB x.1 ≤ 100000000, post := fun x y => (y.1, y.2.1) = insD x.1 x.2.1 }
def c_r12_guess : Con := { args := [.dat BY], res := [.own 111 AT], pre := fun x => lenB x.1 ≤ 100000000, post := fun x y => y.1 = guessD x.1 }
def c_r12_Decode : Con := { args := [.dat BY], res := [.own 111 AT, .dat I64], pre := fun x => lenB x.1 ≤ 100000000, post := fun x y => decQ x.1 y.1 y.2.1 = true }
end Go.Proofs.YtgnlcpoeepfdoaaGreatDoor
end
section
namespace Go.Proofs.YtgnlcpoeepfdoaaGreatDoor
open Go Go.Vc Go.Pl Go.Proofs
set_option linter.unusedVariables false
set_option linter.unusedSimpArgs false
set_option maxRecDepth 20000
theorem adft_eq4 : Kd.dft (Kd.pair (Kd.int IntKind.i64) Kd.str) = adft := rfl
theorem edft_eq : Kd.dft (Kd.pair (Kd.int IntKind.i64) (Kd.sl (Kd.int IntKind.u8))) = edft := rfl
abbrev q31 := ((Int × List Int) × Int × Unit)
abbrev q32 := (List (Int × List Int) × Int × Int × Unit)
abbrev q263 (p0 : q2) (p1 : q10) := (List.getD p0.1 (q507 p1) q526 ≠ List.getD p0.2.1 (q507 p1) q526)
abbrev q264 (p0 : q31) := (Kd.wf q478 p0.1 /\ wiZ p0.2.1 /\ True)
abbrev q265 (p0 : q7) (p1 : q23) (p2 : q1) := (q452 <= p0.1 /\ p0.1 <= (255 : Int) /\ lenB (List.getD p1.1 (Int.toNat p2.1) q470).2 <= (16777215 : Nat))
abbrev q266 (p0 : q6) (p1 : q6) := (q452 <= q459 /\ q459 <= (255 : Int) /\ lenB (p0.1 ++ p1.1) <= (16777215 : Nat))
abbrev q267 (p0 : q6) := (q452 <= (49 : Int) /\ (49 : Int) <= (255 : Int) /\ lenB p0.1 <= (16777215 : Nat))
abbrev q268 (p0 : q0) := (q452 <= (6 : Int) /\ (6 : Int) <= (255 : Int) /\ lenB p0.1 <= (16777215 : Nat))
abbrev q269 (p0 : q23) (p1 : q1) := (List.getD p0.1 (Int.toNat p1.1) q470)
abbrev q270 (p0 : q32) := (Kd.wf (Kd.sl q478) p0.1 /\ wiZ p0.2.1 /\ wiZ p0.2.2.1 /\ True)
abbrev q271 (p0 : q31) := (p0.2.1 ≠ q452)
abbrev q598 := (Kd.pair (Kd.int IntKind.i64) (Kd.sl (Kd.int IntKind.u8)))
abbrev q567 := (Kd.dft q598)
abbrev q528 (p0 : List (Int × List Int) × Bool × Unit) := (List.getD p0.1 q565 q567)
abbrev q486 := (Kd.dft q598)
abbrev q272 (p0 : q20) (p1 : List (Int × List Int) × Bool × Unit) := (List.length p0.1 + List.length [(wrZ (List.getD (q528 p1).2 (2 : Nat) q501), (List.getD p1.1 q556 q486).2)])
abbrev q273 (p0 : List (Int × List Int) × Bool × Unit) := (bif bif !p0.2.1 then true else decide ((lnZ p0.1) ≠ q500) then true else decide ((lnZ (q528 p0).2) ≠ (3 : Int)))
abbrev q274 (p0 : List (Int × List Int) × Bool × Unit) := ((bif !p0.2.1 then true else decide ((lnZ p0.1) ≠ q500)) = false -> ((bif !p0.2.1 then true else decide ((lnZ p0.1) ≠ q500)) ==
  false) = true /\ True)
abbrev q275 (p0 : List (Int × List Int) × Bool × Unit) := (List.getD (q528 p0).2 (2 : Nat) q501)
abbrev q276 (p0 : List (Int × List Int) × Bool × Unit) := (q452 <= q500 /\ q500 < (lnZ (q528 p0).2))
abbrev q277 (p0 : List (Int × List Int) × Bool × Unit) := (List.getD p0.1 q556 q486)
abbrev q278 := (Kd.dft q478)
abbrev q481 (p0 : q0) := (decide (p0.2.1 ≠ q557) == false)
abbrev q279 (p0 : q0) := (decide (p0.2.1 ≠ q557) = false -> (q481 p0) = true /\ True)
abbrev q480 (p0 : List q236 × Bool × Unit) := (bif !p0.2.1 then true else decide ((lnZ p0.1) ≠ (2 : Int)))
def t147 : Prop :=
  ∀ (x : q2), (Kd.wf q249 x.1 /\ Kd.wf q249 x.2.1 /\ True) -> True -> (decide ((lnZ x.1) ≠ (lnZ x.2.1)) = true -> false = decide (x.1 = x.2.1)) /\ (decide ((lnZ x.1) ≠ (lnZ x.2.1)) = false ->
  ∃ (I : q8), ∃ (μ : q9), ((lnZ x.1) = (lnZ x.1) /\ Value.bool false = Value.bool false /\ x.1 = x.1 /\ x.2.1 = x.2.1 /\ I (q56, false, ()) ()) /\ ∀ (y : q10) (z : Unit), (q102 y) -> True ->
  I y z -> (decide (y.1 < (lnZ x.1)) = true -> (q56 <= y.1 /\ y.1 < (lnZ x.1)) /\ (q56 <= y.1 /\ y.1 < (lnZ x.2.1)) /\ (decide (q263 x y) = true -> false = decide (x.1 = x.2.1)) /\ (decide
  (q263 x y) = false -> (lnZ x.1) = (lnZ x.1) /\ Value.bool false = Value.bool false /\ x.1 = x.1 /\ x.2.1 = x.2.1 /\ I (wrZ (q104 y), y.2.1, ()) () /\ μ (wrZ (q104 y), y.2.1, ()) () < μ y
  z)) /\ (decide (y.1 < (lnZ x.1)) = false -> true = decide (x.1 = x.2.1)))
theorem e147 : t147 = Con.vc c_slices_Equal_int_int GL (mkEnv ty [] [] [] [0, 1, 4, 5, 10, 12, 13, 14, 24]) {} Tryz.f147.ntmps Tryz.f147.results.toList (bodyOf Tryz.f147) := by kernel_rfl
theorem k147 : t147 := by
  unfold t147
  delta q2 q249 lnZ q8 q9 q56 q10 q102 q263 wrZ q104 q566 wiZ wbZ q507 q526 q491
  rintro ⟨a, b, _⟩ hx hp
  have hl : a.length ≤ 9223372036854775807 := hx.1.1
  try dsimp +instances only [dft_int, dft_sl, dft_str]
  simp only [true_and, and_true, eq_self_iff_true, implies_true, reduceCtorEq, false_implies, true_implies, decide_eq_true_eq, decide_eq_false_iff_not, beq_self_eq_true, Bool.not_eq_true', ne_eq, Decidable.not_not, List.nil_append, List.length_singleton, List.length_cons, List.length_nil, Nat.zero_add, Nat.add_zero, Nat.mul_one, and_self, beq_iff_eq, Bool.not_true, Bool.not_false, Bool.not_eq_false', Bool.cond_false_right, Bool.and_eq_true, imp_self, Bool.not_eq_true, Bool.cond_true_left, Bool.or_eq_true]
  refine ⟨fun h => (decide_eq_false (fun e => h (by rw [e]))).symm, fun h => ?_⟩
  refine ⟨fun y _ => 0 ≤ y.1 ∧ y.1 ≤ a.length ∧ a.take y.1.toNat = b.take y.1.toNat, fun y _ => ((a.length : Int) - y.1).toNat, ⟨Int.le_refl 0, by simp only; omega, rfl⟩, ?_⟩
  rintro ⟨i, q, _⟩ _ _ ⟨i0, i1, e⟩
  simp only at i0 i1 e ⊢
  refine ⟨fun hlt => ⟨⟨i0, hlt⟩, ⟨i0, by omega⟩, fun hne => ?_, fun he => ?_⟩, fun hge => ?_⟩
  . refine (decide_eq_false fun e2 => hne ?_).symm
    rw [e2]
  . rw [wrapM (i + 1) (by omega) (by omega)]
    refine ⟨⟨by omega, by omega, ?_⟩, by omega⟩
    rw [show (i + 1).toNat = i.toNat + 1 by omega, take_snoc a _ (by omega), take_snoc b _ (by omega), e, he]
  . rw [List.take_of_length_le (by omega), List.take_of_length_le (by omega)] at e
    exact (decide_eq_true e).symm
theorem h147 : c_slices_Equal_int_int.ok Tryz.prog GL 147 := con_ok (H := {}) (mkEnv_ok (gl := GL) (l := []) (q := []) (d := []) _ tyOk (by kernel_rfl) trivial trivial trivial) (by kernel_rfl) (by kernel_rfl) (Eq.mp e147 k147)
def t134 : Prop :=
  ∀ (x : q2), (Kd.wf q249 x.1 /\ Kd.wf q249 x.2.1 /\ True) -> True -> (q64 x) /\ (q64 x) /\ (q63 x) /\ (q61 x) /\ (q64 x) /\ (decide (q66 x) = true -> (q65 x) = true /\ (q65 x) = true /\ True
  /\ (∀ (y : q4), (q67 y) -> y.1 = decide (List.take (Int.toNat (lnZ x.2.1)) x.1 = x.2.1) -> y.1 = decide (List.take (List.length x.2.1) x.1 = x.2.1)) /\ True) /\ (decide (q66 x) = !true ->
  false = decide (List.take (List.length x.2.1) x.1 = x.2.1))
theorem e134 : t134 = Con.vc c_oid_Begins GL (mkEnv ty [(147, conSem c_slices_Equal_int_int)] [] [] [0, 1, 4]) {} Tryz.f134.ntmps Tryz.f134.results.toList (bodyOf Tryz.f134) := by kernel_rfl
theorem k134 : t134 := by
  unfold t134
  delta q2 q249 q64 q63 q61 q66 q65 q4 q67 lnZ q566 q496 q452 wbZ
  rintro ⟨a, b, _⟩ hx hp
  try dsimp +instances only [dft_int, dft_sl, dft_str]
  simp only [true_and, and_true, eq_self_iff_true, implies_true, reduceCtorEq, false_implies, true_implies, decide_eq_true_eq, decide_eq_false_iff_not, beq_self_eq_true, Bool.not_eq_true', ne_eq, Decidable.not_not, List.nil_append, List.length_singleton, List.length_cons, List.length_nil, Nat.zero_add, Nat.add_zero, Nat.mul_one, and_self, beq_iff_eq, Bool.not_true, Bool.not_false, Bool.not_eq_false', Bool.cond_false_right, Bool.and_eq_true, imp_self, Bool.not_eq_true, Bool.cond_true_left, Bool.or_eq_true]
  refine ⟨fun h => ⟨h, h, by omega, h⟩, fun h => ⟨h, h, fun y _ e => ?_⟩, fun h => ?_⟩
  . rw [e, Int.toNat_natCast]
  . refine (decide_eq_false fun e => h ?_).symm
    have := congrArg List.length e
    rw [List.length_take] at this
    omega
theorem h134 : c_oid_Begins.ok Tryz.prog GL 134 := con_ok (H := {}) (mkEnv_ok (gl := GL) (l := [(147, conSem c_slices_Equal_int_int)]) (q := []) (d := []) _ tyOk (by kernel_rfl) ⟨h147.call, trivial⟩ trivial trivial) (by kernel_rfl) (by kernel_rfl) (Eq.mp e134 k134)
def t132 : Prop :=
  ∀ (x : q0), (wyZ x.1 /\ wiZ x.2.1 /\ True) -> lenB x.1 <= q153 -> lenB x.1 <= q103 /\ (∀ (y : q31), (q264 y) -> (y.1, y.2.1) = oneD x.1 -> q93 <= q89 /\ (decide (y.2.1 = q56) = true ->
  True) /\ (decide (y.2.1 = q56) = true -> (decide (y.2.1 = q56) == true) = true /\ True) /\ (decide (y.2.1 = q56) = true -> True) /\ (decide (y.2.1 = q56) = true -> (decide (y.2.1 = q56) ==
  true) = true /\ (decide (y.2.1 = q56) == true) = true /\ True) /\ (decide (y.2.1 = q56) = true -> (decide (y.2.1 = q56) == true) = true) /\ y.1.2 = (oneD x.1).1.2 /\ (bif decide (y.2.1 =
  q56) then decide (y.1.1 = x.2.1) else false) = (decide ((oneD x.1).2 = q56) && decide ((oneD x.1).1.1 = x.2.1))) /\ True
theorem e132 : t132 = Con.vc c_name_only GL (mkEnv ty [(112, conSem c_der_One)] [] [] [0, 1, 4, 5, 6, 7]) {} Tryz.f132.ntmps Tryz.f132.results.toList (bodyOf Tryz.f132) := by kernel_rfl
theorem k132 : t132 := by
  unfold t132
  delta q0 wyZ wiZ q153 q103 q31 q264 q93 q89 q56 q478 q566
  rintro ⟨b, t, _⟩ hx hp
  have hp : b.length ≤ 100000000 := hp
  try dsimp +instances only [dft_int, dft_sl, dft_str]
  simp only [true_and, and_true, eq_self_iff_true, implies_true, reduceCtorEq, false_implies, true_implies, decide_eq_true_eq, decide_eq_false_iff_not, beq_self_eq_true, Bool.not_eq_true', ne_eq, Decidable.not_not, List.nil_append, List.length_singleton, List.length_cons, List.length_nil, Nat.zero_add, Nat.add_zero, Nat.mul_one, and_self, beq_iff_eq, Bool.not_true, Bool.not_false, Bool.not_eq_false', Bool.cond_false_right, Bool.and_eq_true, imp_self, Bool.not_eq_true, Bool.cond_true_left, Bool.or_eq_true]
  refine ⟨by rw [lenB]; omega, ?_⟩
  rintro ⟨x, e, _⟩ _ h
  simp only at h ⊢
  rw [← h]
  exact ⟨by decide, rfl, rfl⟩
theorem h132 : c_name_only.ok Tryz.prog GL 132 := con_ok (H := {}) (mkEnv_ok (gl := GL) (l := [(112, conSem c_der_One)]) (q := []) (d := []) _ tyOk (by kernel_rfl) ⟨h112.call, trivial⟩ trivial trivial) (by kernel_rfl) (by kernel_rfl) (Eq.mp e132 k132)
def t95 : Prop :=
  ∀ (x : Int × List Int × Unit), (wiZ x.1 /\ wyZ x.2.1 /\ True) -> q56 <= x.1 /\ x.1 <= (255 : Int) /\ lenB x.2.1 <= (16777215 : Nat) -> (lenB x.2.1 <= (16777215 : Nat) /\ q56 <= x.1 /\ x.1
  <= (255 : Int)) /\ (∀ (y : q6), (q165 y) -> y.1 = putB (x.1, x.2.1) -> y.1 = putB (x.1, x.2.1)) /\ True
theorem e95 : t95 = Con.vc c_r12_put GL (mkEnv ty [(111, conSem c_r01_Bytes)] [] [] [0, 1, 4]) {} Tryz.f95.ntmps Tryz.f95.results.toList (bodyOf Tryz.f95) := by kernel_rfl
theorem k95 : t95 := by
  unfold t95
  delta wiZ wyZ q56 q6 q165
  rintro ⟨t, c, _⟩ hx hp
  obtain ⟨h1, h2, h3⟩ := hp
  simp only at h1 h2 h3
  try dsimp +instances only [dft_int, dft_sl, dft_str]
  simp only [true_and, and_true, eq_self_iff_true, implies_true, reduceCtorEq, false_implies, true_implies, decide_eq_true_eq, decide_eq_false_iff_not, beq_self_eq_true, Bool.not_eq_true', ne_eq, Decidable.not_not, List.nil_append, List.length_singleton, List.length_cons, List.length_nil, Nat.zero_add, Nat.add_zero, Nat.mul_one, and_self, beq_iff_eq, Bool.not_true, Bool.not_false, Bool.not_eq_false', Bool.cond_false_right, Bool.and_eq_true, imp_self, Bool.not_eq_true, Bool.cond_true_left, Bool.or_eq_true]
  exact ⟨h3, h1, h2⟩
theorem h95 : c_r12_put.ok Tryz.prog GL 95 := con_ok (H := {}) (mkEnv_ok (gl := GL) (l := [(111, conSem c_r01_Bytes)]) (q := []) (d := []) _ tyOk (by kernel_rfl) ⟨h111.call, trivial⟩ trivial trivial) (by kernel_rfl) (by kernel_rfl) (Eq.mp e95 k95)
def t61 : Prop :=
  ∀ (x : q23), (q207 x) -> (List.length x.1 <= q103 /\ ∀ (a : q21), a ∈ x.1 -> List.length a.2 <= q153) -> (List.length x.1 <= q103 /\ ∀ (a : q21), a ∈ x.1 -> List.length a.2 <= q153) /\ (∀
  (y : q4), (q67 y) -> y.1 = mayN x.1 -> ((!y.1) = true -> ([], (120 : Int)) = EncN x.1) /\ ((!y.1) = false -> ∃ (I : q18), ∃ (μ : q19), (Value.bool false = Value.bool false /\ q56 = q56 /\
  Value.slice none q91 q91 = Value.slice none q91 q91 /\ x.1 = x.1 /\ I (q56, ()) ([], ())) /\ ∀ (y : q1) (z : q6), (q52 y) -> (q165 z) -> I y z -> (decide (y.1 < (lnZ x.1)) = true -> (q56 <=
  y.1 /\ y.1 < (lnZ x.1)) /\ True /\ (∀ (y_1 : q0), (wyZ y_1.1 /\ wiZ y_1.2.1 /\ True) -> (y_1.1, y_1.2.1) = EncO [q94, (5 : Int), q453, (q269 x y).1] -> (q56 <= y.1 /\ y.1 < (lnZ x.1)) /\
  List.length (q269 x y).2 <= q103 /\ (∀ (y_2 : q7), (q113 y_2) -> y_2.1 = (kindD (q269 x y).2).1 /\ y_2.2.1 = (kindD (q269 x y).2).2 -> (q56 <= y.1 /\ y.1 < (lnZ x.1)) /\ ((q268 y_1) /\ (∀
  (y_3 : q6), (q165 y_3) -> y_3.1 = putB ((6 : Int), y_1.1) -> ((((q265 y_2 x y) /\ (∀ (y_4 : q6), (q165 y_4) -> y_4.1 = putB (y_2.1, (q269 x y).2) -> (q91 < q59 /\ (q258 y_3 y_4) * q59 <=
  q152 /\ List.length y_3.1 + List.length y_4.1 <= q151 /\ (q266 y_3 y_4) /\ (∀ (y_5 : q6), (q165 y_5) -> y_5.1 = putB (q459, y_3.1 ++ y_4.1) -> (q267 y_5) /\ (∀ (y_6 : q6), (q165 y_6) ->
  y_6.1 = putB ((49 : Int), y_5.1) -> q91 < q59 /\ (q258 z y_6) * q59 <= q152 /\ List.length z.1 + List.length y_6.1 <= q151 /\ Value.bool false = Value.bool false /\ q56 = q56 /\ Value.slice
  none q91 q91 = Value.slice none q91 q91 /\ x.1 = x.1 /\ I (wrZ (q159 y), ()) (z.1 ++ y_6.1, ()) /\ μ (wrZ (q159 y), ()) (z.1 ++ y_6.1, ()) < μ y z) /\ True) /\ True) /\ True) /\ True) /\
  True) /\ True) /\ True) /\ True) /\ (((q268 y_1) /\ (∀ (y_3 : q6), (q165 y_3) -> y_3.1 = putB ((6 : Int), y_1.1) -> (((q265 y_2 x y) /\ (∀ (y_4 : q6), (q165 y_4) -> y_4.1 = putB (y_2.1,
  (q269 x y).2) -> (q91 < q59 /\ (q258 y_3 y_4) * q59 <= q152 /\ List.length y_3.1 + List.length y_4.1 <= q151 /\ (q266 y_3 y_4) /\ (∀ (y_5 : q6), (q165 y_5) -> y_5.1 = putB (q459, y_3.1 ++
  y_4.1) -> (q267 y_5) /\ (∀ (y_6 : q6), (q165 y_6) -> y_6.1 = putB ((49 : Int), y_5.1) -> q91 < q59 /\ (q258 z y_6) * q59 <= q152 /\ List.length z.1 + List.length y_6.1 <= q151 /\ Value.bool
  false = Value.bool false /\ q56 = q56 /\ Value.slice none q91 q91 = Value.slice none q91 q91 /\ x.1 = x.1 /\ I (wrZ (q159 y), ()) (z.1 ++ y_6.1, ()) /\ μ (wrZ (q159 y), ()) (z.1 ++ y_6.1,
  ()) < μ y z) /\ True) /\ True) /\ True) /\ True) /\ True) /\ True) /\ True) /\ (((q268 y_1) /\ (∀ (y_3 : q6), (q165 y_3) -> y_3.1 = putB ((6 : Int), y_1.1) -> ((q265 y_2 x y) /\ (∀ (y_4 :
  q6), (q165 y_4) -> y_4.1 = putB (y_2.1, (q269 x y).2) -> (q91 < q59 /\ (q258 y_3 y_4) * q59 <= q152 /\ List.length y_3.1 + List.length y_4.1 <= q151 /\ (q266 y_3 y_4) /\ (∀ (y_5 : q6),
  (q165 y_5) -> y_5.1 = putB (q459, y_3.1 ++ y_4.1) -> (q267 y_5) /\ (∀ (y_6 : q6), (q165 y_6) -> y_6.1 = putB ((49 : Int), y_5.1) -> q91 < q59 /\ (q258 z y_6) * q59 <= q152 /\ List.length
  z.1 + List.length y_6.1 <= q151 /\ Value.bool false = Value.bool false /\ q56 = q56 /\ Value.slice none q91 q91 = Value.slice none q91 q91 /\ x.1 = x.1 /\ I (wrZ (q159 y), ()) (z.1 ++
  y_6.1, ()) /\ μ (wrZ (q159 y), ()) (z.1 ++ y_6.1, ()) < μ y z) /\ True) /\ True) /\ True) /\ True) /\ True) /\ True) /\ True) /\ True) /\ True) /\ True) /\ True) /\ (decide (y.1 < (lnZ
  x.1)) = false -> (q56 <= q459 /\ q459 <= (255 : Int) /\ lenB z.1 <= (16777215 : Nat)) /\ (∀ (y : q6), (q165 y) -> y.1 = putB (q459, z.1) -> (y.1, q56) = EncN x.1) /\ True))) /\ True
theorem e61 : t61 = Con.vc c_r12_Encode GL (mkEnv ty [(92, conSem c_r12_May), (93, conSem c_r03_Encode), (94, conSem c_r05_Kind), (95, conSem c_r12_put)] [] [] [0, 2, 3, 4, 5, 6, 8, 10, 13, 17]) {} Tryz.f61.ntmps Tryz.f61.results.toList (bodyOf Tryz.f61) := by kernel_rfl
theorem k61 : t61 := by
  unfold t61
  delta q23 q207 q103 q21 q153 q4 q67 q18 q19 q56 q91 q1 q6 q52 q165 lnZ q0 wyZ wiZ q94 q453 q269 q7 q113 q268 q265 q59 q258 q152 q151 q266 q459 q267 wrZ q159 q508 wbZ q470 q452 q491 q572
  rintro ⟨n, _⟩ hx hp
  have hp2 := hp
  obtain ⟨h1, h2⟩ := hp2
  simp only at h1 h2
  try dsimp +instances only [dft_int, dft_sl, dft_str]
  simp only [true_and, and_true, eq_self_iff_true, implies_true, reduceCtorEq, false_implies, true_implies, decide_eq_true_eq, decide_eq_false_iff_not, beq_self_eq_true, Bool.not_eq_true', ne_eq, Decidable.not_not, List.nil_append, List.length_singleton, List.length_cons, List.length_nil, Nat.zero_add, Nat.add_zero, Nat.mul_one, and_self, beq_iff_eq, Bool.not_true, Bool.not_false, Bool.not_eq_false', Bool.cond_false_right, Bool.and_eq_true, imp_self, Bool.not_eq_true, Bool.cond_true_left, Bool.or_eq_true]
  simp only [adft_eq4]
  refine ⟨⟨h1, h2⟩, ?_⟩
  rintro ⟨m, _⟩ _ em
  simp only at em ⊢
  subst em
  refine ⟨fun h => by rw [EncN, if_neg (by rw [h]; decide)], fun h => ?_⟩
  obtain ⟨h16, hA⟩ := mayN_args h
  have hfl : ∀ i, ((n.take i).flatMap attrE).length ≤ 1200 := fun i => by
    have := flat_len (n.take i) fun a ha => hA a (List.mem_of_mem_take ha)
    have : (n.take i).length ≤ n.length := by rw [List.length_take]; omega
    omega
  refine ⟨fun y z => 0 ≤ y.1 ∧ y.1 ≤ n.length ∧ z.1 = (n.take y.1.toNat).flatMap attrE, fun y _ => ((n.length : Int) - y.1).toNat, ⟨Int.le_refl 0, by simp only; omega, rfl⟩, ?_⟩
  rintro ⟨i, _⟩ ⟨z, _⟩ _ _ ⟨i0, i1, ez⟩
  simp only at i0 i1 ez ⊢
  have hzl := hfl i.toNat
  rw [← ez] at hzl
  refine ⟨fun hlt => ⟨⟨i0, hlt⟩, ?_⟩, fun hge => ?_⟩
  . have hm := hA _ (mem_getD adft n i.toNat (by omega))
    have hst : (n.take (i.toNat + 1)).flatMap attrE = z ++ attrE (n.getD i.toNat adft) := by rw [take_snocA adft n _ (by omega), List.flatMap_append, ← ez]; simp
    generalize n.getD i.toNat adft = a at hm hst
    have hv := mayA_len hm
    have hk := (may_kind hm).2
    have hB := attrB_len hm
    have hE := attrE_len hm
    have p1 : (putB (6, [85, 4, a.1])).length = 5 := put_small (x := (6, [85, 4, a.1])) (by simp)
    have p2 : (putB (elK a)).length = 2 + a.2.length := put_small (x := elK a) (by show a.2.length < 128; omega)
    rintro ⟨o, f, _⟩ _ eo
    simp only at eo ⊢
    rw [enc_oid hm] at eo
    obtain ⟨rfl, rfl⟩ := Prod.mk.inj eo
    refine ⟨⟨i0, hlt⟩, by omega, ?_⟩
    rintro ⟨k, e, _⟩ _ ⟨ek, ee⟩
    simp only at ek ee ⊢
    refine ⟨⟨i0, hlt⟩, ⟨by decide, by decide, by simp [lenB]⟩, ?_⟩
    rintro ⟨w1, _⟩ _ e1
    simp only at e1 ⊢
    subst e1
    refine ⟨⟨by omega, by omega, by rw [lenB]; omega⟩, ?_⟩
    rintro ⟨w2, _⟩ _ e2
    simp only at e2 ⊢
    rw [ek] at e2
    have e2 : w2 = putB (elK a) := e2
    subst e2
    refine ⟨by decide, by omega, by omega, ⟨by decide, by decide, by rw [lenB, List.length_append]; omega⟩, ?_⟩
    rintro ⟨w3, _⟩ _ e3
    simp only at e3 ⊢
    have e3 : w3 = attrB a := e3
    subst e3
    refine ⟨⟨by decide, by decide, by rw [lenB]; omega⟩, ?_⟩
    rintro ⟨w4, _⟩ _ e4
    simp only at e4 ⊢
    have e4 : w4 = attrE a := e4
    subst e4
    rw [wrapK (i + 1) (by omega) (by omega)]
    refine ⟨by decide, by omega, by omega, ⟨by omega, by omega, ?_⟩, by omega⟩
    rw [show (i + 1).toNat = i.toNat + 1 by omega, hst]
  . have ezz : z = n.flatMap attrE := by rw [ez, List.take_of_length_le (by omega)]
    refine ⟨⟨by decide, by decide, by rw [lenB]; omega⟩, ?_⟩
    rintro ⟨w, _⟩ _ ew
    simp only at ew ⊢
    rw [ew, ezz, EncN, if_pos h]
    rfl
theorem h61 : c_r12_Encode.ok Tryz.prog GL 61 := con_ok (H := {}) (mkEnv_ok (gl := GL) (l := [(92, conSem c_r12_May), (93, conSem c_r03_Encode), (94, conSem c_r05_Kind), (95, conSem c_r12_put)]) (q := []) (d := []) _ tyOk (by kernel_rfl) ⟨h92.call, h93.call, h94.call, h95.call, trivial⟩ trivial trivial) (by kernel_rfl) (by kernel_rfl) (Eq.mp e61 k61)
def t91 : Prop :=
  ∀ (x : q0), (wyZ x.1 /\ wiZ x.2.1 /\ True) -> lenB x.1 <= q153 -> lenB x.1 <= q103 /\ (∀ (y : q31), (q264 y) -> (y.1, y.2.1) = oneD x.1 -> q93 <= q89 /\ (decide (q271 y) = false -> True) /\
  (decide (q271 y) = false -> (decide (q271 y) == false) = true /\ True) /\ (decide (q271 y) = false -> True) /\ (decide (q271 y) = false -> (decide (q271 y) == false) = true /\ (decide (q271
  y) == false) = true /\ True) /\ (decide (q271 y) = false -> (decide (q271 y) == false) = true) /\ ((bif decide (q271 y) then true else decide (y.1.1 ≠ x.2.1)) = true -> ([], false) = insD
  x.1 x.2.1) /\ ((bif decide (q271 y) then true else decide (y.1.1 ≠ x.2.1)) = false -> lenB y.1.2 <= q103 /\ (∀ (y_1 : q32), (q270 y_1) -> (y_1.1, y_1.2.1, y_1.2.2.1) = allD y.1.2 -> (y_1.1,
  decide (y_1.2.2.1 = q56)) = insD x.1 x.2.1) /\ True)) /\ True
theorem e91 : t91 = Con.vc c_r12_inside GL (mkEnv ty [(59, conSem c_r01_One), (106, conSem c_r01_All)] [] [] [0, 1, 4, 5, 6, 7, 8, 22]) {} Tryz.f91.ntmps Tryz.f91.results.toList (bodyOf Tryz.f91) := by kernel_rfl
theorem k91 : t91 := by
  unfold t91
  delta q0 wyZ wiZ q153 q103 q31 q264 q93 q89 q271 q32 q270 q56 q478 q452 q566
  rintro ⟨b, t, _⟩ hx hp
  have hp : b.length ≤ 100000000 := hp
  try dsimp +instances only [dft_int, dft_sl, dft_str]
  simp only [true_and, and_true, eq_self_iff_true, implies_true, reduceCtorEq, false_implies, true_implies, decide_eq_true_eq, decide_eq_false_iff_not, beq_self_eq_true, Bool.not_eq_true', ne_eq, Decidable.not_not, List.nil_append, List.length_singleton, List.length_cons, List.length_nil, Nat.zero_add, Nat.add_zero, Nat.mul_one, and_self, beq_iff_eq, Bool.not_true, Bool.not_false, Bool.not_eq_false', Bool.cond_false_right, Bool.and_eq_true, imp_self, Bool.not_eq_true, Bool.cond_true_left, Bool.or_eq_true]
  have hol := oneD_len b
  refine ⟨by rw [lenB]; omega, ?_⟩
  rintro ⟨x, e, _⟩ _ h
  simp only at h ⊢
  rw [insD, ← h]
  rw [← h] at hol
  refine ⟨by decide, fun h2 => by rw [if_pos h2], fun h2 => ⟨by rw [lenB]; simp only at hol; omega, ?_⟩⟩
  simp only [Bool.or_eq_false_iff, decide_eq_false_iff_not] at h2
  rintro ⟨l, n, e2, _⟩ _ el
  simp only at el ⊢
  rw [if_neg (fun hh => hh.elim h2.1 h2.2), ← el]
theorem h91 : c_r12_inside.ok Tryz.prog GL 91 := con_ok (H := {}) (mkEnv_ok (gl := GL) (l := [(59, conSem c_r01_One), (106, conSem c_r01_All)]) (q := []) (d := []) _ tyOk (by kernel_rfl) ⟨h59.call, h106.call, trivial⟩ trivial trivial) (by kernel_rfl) (by kernel_rfl) (Eq.mp e91 k91)
def t60 : Prop :=
  ∀ (x : q6), (q165 x) -> lenB x.1 <= q153 -> lenB x.1 <= q153 /\ (∀ (y : List q236 × Bool × Unit), (Kd.wf q235 y.1 /\ wbZ y.2.1 /\ True) -> (y.1, y.2.1) = insD x.1 q459 -> ∃ (I : Int × Unit
  -> List q236 × List q236 × Unit -> Prop), ∃ (μ : Int × Unit -> List q236 × List q236 × Unit -> Nat), (x.1 = x.1 /\ y.1 = y.1 /\ I (q56, ()) ([], [], ())) /\ ∀ (y_1 : q1) (z : q20), (q52
  y_1) -> (q167 z) -> I y_1 z -> (decide (y_1.1 < (lnZ y.1)) = true -> (q56 <= y_1.1 /\ y_1.1 < (lnZ y.1)) /\ lenB (List.getD y.1 (q58 y_1) q278).2 <= q153 /\ (∀ (y_2 : List q236 × Bool ×
  Unit), (Kd.wf q235 y_2.1 /\ wbZ y_2.2.1 /\ True) -> (y_2.1, y_2.2.1) = insD (List.getD y.1 (q58 y_1) q278).2 q459 -> ((!y_2.2.1) = false -> True) /\ ((!y_2.2.1) = false -> ((!y_2.2.1) ==
  false) = true /\ True) /\ ((!y_2.2.1) = false -> ((!y_2.2.1) == false) = true /\ True) /\ ((!y_2.2.1) = false -> ((!y_2.2.1) == false) = true) /\ ((q480 y_2) = false -> True) /\ ((q480 y_2)
  = false -> ((q480 y_2) == false) = true /\ (q56 <= q56 /\ q56 < (lnZ y_2.1)) /\ True) /\ (q274 y_2) /\ (q274 y_2) /\ (q274 y_2) /\ (q274 y_2) /\ ((q480 y_2) = false -> ((q480 y_2) == false)
  = true) /\ ((q273 y_2) = true -> [] = guessD x.1) /\ ((q273 y_2) = false -> (q56 <= q56 /\ q56 < (lnZ y_2.1)) /\ (q56 <= q92 /\ q92 < (lnZ y_2.1)) /\ ((q276 y_2) /\ (((((((q91 < q93 /\
  (q272 z y_2) * (24 : Nat) <= q152 /\ List.length z.1 + List.length [(wrZ (q275 y_2), (q277 y_2).2)] <= q151 /\ x.1 = x.1 /\ y.1 = y.1 /\ I (wrZ (q159 y_1), ()) (z.1 ++ [(wrZ (q275 y_2),
  (q277 y_2).2)], z.2.1, ()) /\ μ (wrZ (q159 y_1), ()) (z.1 ++ [(wrZ (q275 y_2), (q277 y_2).2)], z.2.1, ()) < μ y_1 z) /\ True) /\ True) /\ True) /\ True) /\ True) /\ ((((((q91 < q93 /\ (q272
  z y_2) * (24 : Nat) <= q152 /\ List.length z.1 + List.length [(wrZ (q275 y_2), (q277 y_2).2)] <= q151 /\ x.1 = x.1 /\ y.1 = y.1 /\ I (wrZ (q159 y_1), ()) (z.1 ++ [(wrZ (q275 y_2), (q277
  y_2).2)], z.2.1, ()) /\ μ (wrZ (q159 y_1), ()) (z.1 ++ [(wrZ (q275 y_2), (q277 y_2).2)], z.2.1, ()) < μ y_1 z) /\ True) /\ True) /\ True) /\ True) /\ (((((q91 < q93 /\ (q272 z y_2) * (24 :
  Nat) <= q152 /\ List.length z.1 + List.length [(wrZ (q275 y_2), (q277 y_2).2)] <= q151 /\ x.1 = x.1 /\ y.1 = y.1 /\ I (wrZ (q159 y_1), ()) (z.1 ++ [(wrZ (q275 y_2), (q277 y_2).2)], z.2.1,
  ()) /\ μ (wrZ (q159 y_1), ()) (z.1 ++ [(wrZ (q275 y_2), (q277 y_2).2)], z.2.1, ()) < μ y_1 z) /\ True) /\ True) /\ True) /\ True) /\ True) /\ True) /\ (((((((q91 < q93 /\ (q272 z y_2) * (24
  : Nat) <= q152 /\ List.length z.1 + List.length [(wrZ (q275 y_2), (q277 y_2).2)] <= q151 /\ x.1 = x.1 /\ y.1 = y.1 /\ I (wrZ (q159 y_1), ()) (z.1 ++ [(wrZ (q275 y_2), (q277 y_2).2)], z.2.1,
  ()) /\ μ (wrZ (q159 y_1), ()) (z.1 ++ [(wrZ (q275 y_2), (q277 y_2).2)], z.2.1, ()) < μ y_1 z) /\ True) /\ True) /\ True) /\ True) /\ (((((q91 < q93 /\ (q272 z y_2) * (24 : Nat) <= q152 /\
  List.length z.1 + List.length [(wrZ (q275 y_2), (q277 y_2).2)] <= q151 /\ x.1 = x.1 /\ y.1 = y.1 /\ I (wrZ (q159 y_1), ()) (z.1 ++ [(wrZ (q275 y_2), (q277 y_2).2)], z.2.1, ()) /\ μ (wrZ
  (q159 y_1), ()) (z.1 ++ [(wrZ (q275 y_2), (q277 y_2).2)], z.2.1, ()) < μ y_1 z) /\ True) /\ True) /\ True) /\ True) /\ True) /\ ((((((q91 < q93 /\ (q272 z y_2) * (24 : Nat) <= q152 /\
  List.length z.1 + List.length [(wrZ (q275 y_2), (q277 y_2).2)] <= q151 /\ x.1 = x.1 /\ y.1 = y.1 /\ I (wrZ (q159 y_1), ()) (z.1 ++ [(wrZ (q275 y_2), (q277 y_2).2)], z.2.1, ()) /\ μ (wrZ
  (q159 y_1), ()) (z.1 ++ [(wrZ (q275 y_2), (q277 y_2).2)], z.2.1, ()) < μ y_1 z) /\ True) /\ True) /\ True) /\ True) /\ True) /\ True) /\ True) /\ (((q276 y_2) /\ ((((((q91 < q93 /\ (q272 z
  y_2) * (24 : Nat) <= q152 /\ List.length z.1 + List.length [(wrZ (q275 y_2), (q277 y_2).2)] <= q151 /\ x.1 = x.1 /\ y.1 = y.1 /\ I (wrZ (q159 y_1), ()) (z.1 ++ [(wrZ (q275 y_2), (q277
  y_2).2)], z.2.1, ()) /\ μ (wrZ (q159 y_1), ()) (z.1 ++ [(wrZ (q275 y_2), (q277 y_2).2)], z.2.1, ()) < μ y_1 z) /\ True) /\ True) /\ True) /\ True) /\ (((((q91 < q93 /\ (q272 z y_2) * (24 :
  Nat) <= q152 /\ List.length z.1 + List.length [(wrZ (q275 y_2), (q277 y_2).2)] <= q151 /\ x.1 = x.1 /\ y.1 = y.1 /\ I (wrZ (q159 y_1), ()) (z.1 ++ [(wrZ (q275 y_2), (q277 y_2).2)], z.2.1,
  ()) /\ μ (wrZ (q159 y_1), ()) (z.1 ++ [(wrZ (q275 y_2), (q277 y_2).2)], z.2.1, ()) < μ y_1 z) /\ True) /\ True) /\ True) /\ True) /\ True) /\ ((((((q91 < q93 /\ (q272 z y_2) * (24 : Nat) <=
  q152 /\ List.length z.1 + List.length [(wrZ (q275 y_2), (q277 y_2).2)] <= q151 /\ x.1 = x.1 /\ y.1 = y.1 /\ I (wrZ (q159 y_1), ()) (z.1 ++ [(wrZ (q275 y_2), (q277 y_2).2)], z.2.1, ()) /\ μ
  (wrZ (q159 y_1), ()) (z.1 ++ [(wrZ (q275 y_2), (q277 y_2).2)], z.2.1, ()) < μ y_1 z) /\ True) /\ True) /\ True) /\ True) /\ True) /\ True) /\ (((q276 y_2) /\ (((((q91 < q93 /\ (q272 z y_2)
  * (24 : Nat) <= q152 /\ List.length z.1 + List.length [(wrZ (q275 y_2), (q277 y_2).2)] <= q151 /\ x.1 = x.1 /\ y.1 = y.1 /\ I (wrZ (q159 y_1), ()) (z.1 ++ [(wrZ (q275 y_2), (q277 y_2).2)],
  z.2.1, ()) /\ μ (wrZ (q159 y_1), ()) (z.1 ++ [(wrZ (q275 y_2), (q277 y_2).2)], z.2.1, ()) < μ y_1 z) /\ True) /\ True) /\ True) /\ True) /\ True) /\ True) /\ True) /\ True)) /\ True) /\
  (decide (y_1.1 < (lnZ y.1)) = false -> z.1 = guessD x.1)) /\ True
theorem e60 : t60 = Con.vc c_r12_guess GL (mkEnv ty [(91, conSem c_r12_inside)] [] [] [0, 2, 3, 5, 6, 7, 8, 17, 43]) {} Tryz.f60.ntmps Tryz.f60.results.toList (bodyOf Tryz.f60) := by kernel_rfl
theorem k60 : t60 := by
  unfold t60
  delta q6 q165 q153 q236 q235 wbZ q459 q56 q1 q20 q52 q167 lnZ q58 q278 q480 q274 q273 q92 q276 q91 q93 q272 q152 wrZ q275 q277 q151 q159 wyZ q478 wiZ q508 q500 q528 q452 q501 q556 q486 q491 q566 q572 q565 q567 q553 q598
  rintro ⟨b, _⟩ hx hp
  have hp : b.length ≤ 100000000 := hp
  try dsimp +instances only [dft_int, dft_sl, dft_str]
  simp only [true_and, and_true, eq_self_iff_true, implies_true, reduceCtorEq, false_implies, true_implies, decide_eq_true_eq, decide_eq_false_iff_not, beq_self_eq_true, Bool.not_eq_true', ne_eq, Decidable.not_not, List.nil_append, List.length_singleton, List.length_cons, List.length_nil, Nat.zero_add, Nat.add_zero, Nat.mul_one, and_self, beq_iff_eq, Bool.not_true, Bool.not_false, Bool.not_eq_false', Bool.cond_false_right, Bool.and_eq_true, imp_self, Bool.not_eq_true, Bool.cond_true_left, Bool.or_eq_true]
  simp only [edft_eq]
  obtain ⟨hil, hie⟩ := insD_len b 48
  refine ⟨hp, ?_⟩
  rintro ⟨l, ok, _⟩ hwl h
  simp only at h ⊢
  have hl : (insD b 48).1 = l := by rw [← h]
  rw [hl] at hil hie
  refine ⟨fun y z => 0 ≤ y.1 ∧ y.1 ≤ l.length ∧ (z.1 : List AttrT).length ≤ y.1 ∧ gAll l = (gAll (l.drop y.1.toNat)).map (z.1 ++ ·), fun y _ => ((l.length : Int) - y.1).toNat, ⟨Int.le_refl 0, by simp only; omega, by simp, by simp⟩, ?_⟩
  rintro ⟨i, _⟩ ⟨acc, v, _⟩ _ _ ⟨i0, i1, hal, hg⟩
  simp only at i0 i1 hal hg ⊢
  refine ⟨fun hlt => ?_, fun hge => ?_⟩
  . have hmem := mem_getD edft l i.toNat (by omega)
    rw [drop_consA edft l i.toNat (by omega)] at hg
    generalize l.getD i.toNat edft = x at hg hmem
    have hxl := hie x hmem
    refine ⟨⟨i0, hlt⟩, by rw [lenB]; omega, ?_⟩
    rintro ⟨two, ok2, _⟩ hw2 h2
    simp only at h2 ⊢
    have q1 : (insD x.2 48).1 = two := by rw [← h2]
    have q2 : (insD x.2 48).2 = ok2 := by rw [← h2]
    refine ⟨fun g => ⟨g, by decide, ?_⟩, fun g => ?_, fun g => ?_⟩
    . simp only [Bool.or_eq_false_iff, decide_eq_false_iff_not, Decidable.not_not] at g
      omega
    . have hn : gOne x = none := by
        rw [gOne, q1, q2, if_neg]
        rintro ⟨g1, g2, g3⟩
        rcases g with (g | g) | g
        . rw [g1] at g; cases g
        . omega
        . omega
      rw [gAll_bad hn] at hg
      rw [guessD, hl, hg]
      rfl
    . rw [Bool.or_eq_false_iff, Bool.or_eq_false_iff, Bool.not_eq_false'] at g
      obtain ⟨⟨g1, g2⟩, g3⟩ := g
      have g2 := dec_not g2
      have g3 := dec_not g3
      have hs : gOne x = some ((two.getD 0 edft).2.getD 2 0, (two.getD 1 edft).2) := by
        rw [gOne, q1, q2, if_pos ⟨g1, by omega, by omega⟩]
      rw [gAll_step hs] at hg
      have hw0 : Kd.wf BY (two.getD 0 edft).2 := by
        have := hw2.1.2 _ (mem_getD edft two 0 (by omega))
        exact this.2
      have hb2 := bys_get (sl_bys hw0) 2
      rw [wrapK (i + 1) (by omega) (by omega), wrapK ((two.getD 0 edft).2.getD 2 0) (by omega) (by omega)]
      refine ⟨⟨by decide, by omega⟩, ⟨by decide, by omega⟩, ⟨by decide, by omega⟩, by decide, by omega, by omega, ⟨by omega, by omega, by rw [List.length_append, List.length_singleton]; omega, ?_⟩, by omega⟩
      rw [hg, show i.toNat + 1 = (i + 1).toNat by omega]
      cases gAll (l.drop (i + 1).toNat) <;> simp
  . rw [List.drop_of_length_le (by omega)] at hg
    rw [guessD, hl, hg]
    simp [gAll]
theorem h60 : c_r12_guess.ok Tryz.prog GL 60 := con_ok (H := {}) (mkEnv_ok (gl := GL) (l := [(91, conSem c_r12_inside)]) (q := []) (d := []) _ tyOk (by kernel_rfl) ⟨h91.call, trivial⟩ trivial trivial) (by kernel_rfl) (by kernel_rfl) (Eq.mp e60 k60)
def t36 : Prop :=
  ∀ (x : q6), (q165 x) -> lenB x.1 <= q153 -> lenB x.1 <= q103 /\ (∀ (y : q31), (q264 y) -> (y.1, y.2.1) = oneD x.1 -> q93 <= q89 /\ (decide (q271 y) = true -> decQ x.1 [] y.2.1 = true) /\
  (decide (q271 y) = false -> lenB x.1 <= q153 /\ (∀ (y : q23), (q207 y) -> y.1 = guessD x.1 -> (List.length y.1 <= q103 /\ ∀ (a : q21), a ∈ y.1 -> List.length a.2 <= q153) /\ (∀ (y_1 : q0),
  (wyZ y_1.1 /\ wiZ y_1.2.1 /\ True) -> (y_1.1, y_1.2.1) = EncN y.1 -> (decide (y_1.2.1 ≠ q557) = false -> True) /\ (q279 y_1) /\ (decide (y_1.2.1 ≠ q557) = false -> True) /\ (q279 y_1) /\
  (decide (y_1.2.1 ≠ q557) = false -> (q481 y_1) = true /\ (q481 y_1) = true /\ True) /\ (decide (y_1.2.1 ≠ q557) = false -> (q481 y_1) = true) /\ ((bif decide (y_1.2.1 ≠ q557) then true else
  decide (y_1.1 ≠ x.1)) = true -> decQ x.1 [] (120 : Int) = true) /\ ((bif decide (y_1.2.1 ≠ q557) then true else decide (y_1.1 ≠ x.1)) = false -> decQ x.1 y.1 q56 = true)) /\ True) /\ True))
  /\ True
theorem e36 : t36 = Con.vc c_r12_Decode GL (mkEnv ty [(59, conSem c_r01_One), (60, conSem c_r12_guess), (61, conSem c_r12_Encode)] [] [] [0, 2, 3, 5, 6, 7, 14, 31]) {} Tryz.f36.ntmps Tryz.f36.results.toList (bodyOf Tryz.f36) := by kernel_rfl
theorem k36 : t36 := by
  unfold t36
  delta q6 q165 q153 q103 q31 q264 q93 q89 q271 q23 q207 q21 q0 wyZ wiZ q557 q279 q481 q56 q478 q452 q508 q566 q572
  rintro ⟨b, _⟩ hx hp
  have hp : b.length ≤ 100000000 := hp
  try dsimp +instances only [dft_int, dft_sl, dft_str]
  simp only [true_and, and_true, eq_self_iff_true, implies_true, reduceCtorEq, false_implies, true_implies, decide_eq_true_eq, decide_eq_false_iff_not, beq_self_eq_true, Bool.not_eq_true', ne_eq, Decidable.not_not, List.nil_append, List.length_singleton, List.length_cons, List.length_nil, Nat.zero_add, Nat.add_zero, Nat.mul_one, and_self, beq_iff_eq, Bool.not_true, Bool.not_false, Bool.not_eq_false', Bool.cond_false_right, Bool.and_eq_true, imp_self, Bool.not_eq_true, Bool.cond_true_left, Bool.or_eq_true]
  obtain ⟨hgl, hge⟩ := guess_len b
  refine ⟨by rw [lenB]; omega, ?_⟩
  rintro ⟨x, e, _⟩ _ h
  simp only at h ⊢
  have o3 : (oneD b).2 = e := by rw [← h]
  refine ⟨by decide, fun h2 => decQ_iff.2 (.inl ⟨by rw [o3]; exact h2, o3.symm, rfl⟩), fun h2 => ⟨hp, ?_⟩⟩
  subst h2
  rintro ⟨n, _⟩ _ en
  simp only at en ⊢
  subst en
  refine ⟨⟨by omega, fun a ha => by have := hge a ha; omega⟩, ?_⟩
  rintro ⟨c, e2, _⟩ _ ec
  simp only at ec ⊢
  have hg := guess_dec o3
  rw [← ec] at hg
  refine ⟨fun h => ?_, fun h => ?_⟩
  . rwa [if_neg (fun h2 => by obtain ⟨rfl, rfl⟩ := Prod.mk.inj h2; exact h.elim (fun h => h rfl) (fun h => h rfl)), if_neg (fun h2 => by obtain ⟨rfl, rfl⟩ := Prod.mk.inj h2; exact h.elim (fun h => h rfl) (fun h => h rfl))] at hg
  . simp only [Bool.or_eq_false_iff, decide_eq_false_iff_not, Decidable.not_not] at h
    obtain ⟨rfl, rfl⟩ := h
    rwa [if_pos rfl, if_pos rfl] at hg
theorem h36 : c_r12_Decode.ok Tryz.prog GL 36 := con_ok (H := {}) (mkEnv_ok (gl := GL) (l := [(59, conSem c_r01_One), (60, conSem c_r12_guess), (61, conSem c_r12_Encode)]) (q := []) (d := []) _ tyOk (by kernel_rfl) ⟨h59.call, h60.call, h61.call, trivial⟩ trivial trivial) (by kernel_rfl) (by kernel_rfl) (Eq.mp e36 k36)
end Go.Proofs.YtgnlcpoeepfdoaaGreatDoor
end
section
namespace Go.Proofs.YtgnlcpoeepfdoaaGreatDoor
open Go Go.Vc Go.Pl Go.Proofs
def c_name_attr : Con := { args := [.dat BY], res := [.dat AT, .dat .bool], pre := fun x => lenB x.1 ≤ 100000000, post := fun x y => attrQ x.1 y.1 y.2.1 = true }
def c_name_Decode : Con := { args := [.dat BY], res := [.own 111 AT, .dat I64], pre := fun x => lenB x.1 ≤ 100000000, post := fun x y => decQ x.1 y.1 y.2.1 = true }
end Go.Proofs.YtgnlcpoeepfdoaaGreatDoor
end
section
namespace Go.Proofs.YtgnlcpoeepfdoaaGreatDoor
open Go Go.Vc Go.Pl Go.Proofs
set_option linter.unusedVariables false
set_option linter.unusedSimpArgs false
set_option maxRecDepth 20000
abbrev q484 (p0 : q7) := (decide (p0.2.1 = (0 : Int)) = true -> (decide (p0.2.1 = (0 : Int)) == true) = true /\ (decide (p0.2.1 = (0 : Int)) == true) = true /\ True)
abbrev q485 (p0 : q7) := (decide (p0.2.1 = (0 : Int)) = true -> (decide (p0.2.1 = (0 : Int)) == true) = true)
abbrev q529 (p0 : q7) (p1 : (Int × List Int × Unit) × List (Int × List Int) × List Int × (Int × List Int × Unit) × Unit) := (bif decide (p0.2.1 = (0 : Int)) then decide (p0.1 = (List.getD
  p1.2.1 q556 q567).1) else false)
abbrev q280 (p0 : q7) (p1 : (Int × List Int × Unit) × List (Int × List Int) × List Int × (Int × List Int × Unit) × Unit) (p2 : q6) := ((q484 p0) /\ ((q485 p0) /\ (((q529 p0 p1) = true ->
  True) /\ (((q529 p0 p1) = true -> ((q529 p0 p1) == true) = true /\ True /\ (∀ (y : q4), (wbZ y.1 /\ True) -> y.1 = mayA (p1.2.2.2.1.1, p1.2.2.2.1.2.1) -> (attrQ p2.1 (p1.2.2.2.1.1,
  p1.2.2.2.1.2.1) y.1 = true /\ True) /\ (attrQ p2.1 (p1.2.2.2.1.1, p1.2.2.2.1.2.1) y.1 = true /\ True) /\ True) /\ True) /\ ((q529 p0 p1) = !true -> (attrQ p2.1 (p1.2.2.2.1.1,
  p1.2.2.2.1.2.1) false = true /\ True) /\ (attrQ p2.1 (p1.2.2.2.1.1, p1.2.2.2.1.2.1) false = true /\ True) /\ True)) /\ True) /\ True) /\ True)
abbrev q530 (p0 : q0) (p1 : q5) (p2 : q4) (p3 : q6) (p4 : Unit -> (Int × List Int × Unit) × List (Int × List Int) × List Int × (Int × List Int × Unit) × Unit -> Prop) (p5 : (Int × List Int
  × Unit) × List (Int × List Int) × List Int × Unit) := ((p0.2.1 = p0.2.1 /\ Value.bool false = Value.bool false /\ p1.2.1 = p1.2.1 /\ p1.1 = p1.1 /\ p2.1 = p2.1 /\ p3.1 = p3.1 /\ p4 ()
  ((p5.1.1, p5.1.2.1, ()), p5.2.1, p5.2.2.1, (List.getD p5.2.2.1 (3 : Nat) (Kd.dft q566), (List.getD p5.2.1 q556 q567).2, ()), ())) /\ True)
abbrev q281 (p0 : q0) (p1 : q5) (p2 : q4) (p3 : q6) (p4 : Unit -> (Int × List Int × Unit) × List (Int × List Int) × List Int × (Int × List Int × Unit) × Unit -> Prop) (p5 : (Int × List Int
  × Unit) × List (Int × List Int) × List Int × Unit) := (((((2 : Nat) <= (65536 : Nat) /\ (p0.2.1 = p0.2.1 /\ Value.bool false = Value.bool false /\ p1.2.1 = p1.2.1 /\ p1.1 = p1.1 /\ p2.1 =
  p2.1 /\ p3.1 = p3.1 /\ p4 () ((p5.1.1, p5.1.2.1, ()), p5.2.1, p5.2.2.1, (List.getD p5.2.2.1 (3 : Nat) (Kd.dft q566), (List.getD p5.2.1 q556 q567).2, ()), ())) /\ True) /\ True) /\ ((2 :
  Nat) <= (65536 : Nat) /\ (q530 p0 p1 p2 p3 p4 p5) /\ True) /\ True) /\ ((2 : Nat) <= (65536 : Nat) /\ ((q530 p0 p1 p2 p3 p4 p5) /\ True) /\ True) /\ True)
abbrev q282 (p0 : q0) (p1 : q5) (p2 : q4) (p3 : q6) (p4 : Unit -> (Int × List Int × Unit) × List (Int × List Int) × List Int × (Int × List Int × Unit) × Unit -> Prop) (p5 : (Int × List Int
  × Unit) × List (Int × List Int) × List Int × Unit) := (((q530 p0 p1 p2 p3 p4 p5) /\ True) /\ True)
abbrev q531 (p0 : q5) (p1 : q32) := (bif bif !p0.2.1 then true else decide (p1.2.2.1 ≠ q557) then true else decide ((lnZ p1.1) ≠ (2 : Int)))
abbrev q283 (p0 : q5) (p1 : q32) := ((q531 p0 p1) = false -> ((q531 p0 p1) == false) = true /\ True)
abbrev q490 (p0 : q32) := (p0.2.2.1 ≠ q557)
abbrev q284 (p0 : q5) (p1 : q32) := (bif bif bif !p0.2.1 then true else decide (q490 p1) then true else decide ((lnZ p1.1) ≠ q500) then true else decide ((List.getD p1.1 q477 q486).1 ≠ (6 :
  Int)))
abbrev q487 (p0 : q5) (p1 : q32) := (bif !p0.2.1 then true else decide (p1.2.2.1 ≠ q557))
abbrev q285 (p0 : q5) (p1 : q32) := ((q487 p0 p1) = false -> ((q487 p0 p1) == false) = true /\ True)
abbrev q286 (p0 : q5) (p1 : q32) := ((q531 p0 p1) == false)
abbrev q287 (p0 : q5) (p1 : q32) := (bif bif !p0.2.1 then true else decide (q490 p1) then true else decide ((lnZ p1.1) ≠ q500))
abbrev q288 (p0 : q7) := (decide (p0.2.1 = (0 : Int)) = true -> (decide (p0.2.1 = (0 : Int)) == true) = true /\ True)
abbrev q289 (p0 : q0) := (bif decide (p0.2.1 ≠ q557) then true else decide ((lnZ p0.1) ≠ q453))
abbrev q290 := (Int × List Int × Unit)
abbrev q488 (p0 : q32) (p1 : q31) := (bif decide (p0.2.2.1 ≠ q557) then true else decide (p1.1.1 ≠ (48 : Int)))
abbrev q291 (p0 : q32) (p1 : q31) := ((q488 p0 p1) = false -> ((q488 p0 p1) == false) = true /\ True)
abbrev q292 (p0 : q32) (p1 : q31) := (bif bif decide (q490 p0) then true else decide (p1.1.1 ≠ q459) then true else decide ((16 : Int) < (lnZ p0.1)))
abbrev q293 (p0 : (Int × List Int × Unit) × List (Int × List Int) × List (Int × List Int) × List (Int × List Int) × Unit) (p1 : q7) := (List.getD p0.2.1 (Int.toNat p1.1) q486)
abbrev q294 := (Kd.sl q489)
abbrev q590 (p0 : q7) (p1 : q290 × List q236 × List Int × q290 × Unit) := (p0.1 = (List.getD p1.2.1 (1 : Nat) (Kd.dft q598)).1)
abbrev q587 (p0 : q7) (p1 : q290 × List q236 × List Int × q290 × Unit) := (bif decide (p0.2.1 = (0 : Int)) then decide (q590 p0 p1) else false)
abbrev q559 (p0 : q7) (p1 : q290 × List q236 × List Int × q290 × Unit) := ((q587 p0 p1) = true -> True)
abbrev q581 (p0 : q7) (p1 : q290 × List q236 × List Int × q290 × Unit) := ((bif decide (p0.2.1 = (0 : Int)) then decide (q590 p0 p1) else false) == true)
abbrev q583 (p0 : q6) (p1 : q290 × List q236 × List Int × q290 × Unit) (p2 : q4) := (attrQ p0.1 (p1.2.2.2.1.1, p1.2.2.2.1.2.1) p2.1 = true /\ True)
abbrev q582 (p0 : q6) (p1 : q290 × List q236 × List Int × q290 × Unit) := (attrQ p0.1 (p1.2.2.2.1.1, p1.2.2.2.1.2.1) false = true /\ True)
abbrev q558 (p0 : q7) (p1 : q290 × List q236 × List Int × q290 × Unit) (p2 : q6) := (((q587 p0 p1) = true -> (q581 p0 p1) = true /\ True /\ (∀ (y : q4), (wbZ y.1 /\ True) -> y.1 = mayA
  (p1.2.2.2.1.1, p1.2.2.2.1.2.1) -> (q583 p2 p1 y) /\ (q583 p2 p1 y) /\ True) /\ True) /\ ((q587 p0 p1) = !true -> (q582 p2 p1) /\ (q582 p2 p1) /\ True))
abbrev q482 (p0 : q7) (p1 : q290 × List q236 × List Int × q290 × Unit) (p2 : q6) := ((q559 p0 p1) /\ (q558 p0 p1 p2) /\ True)
abbrev q483 (p0 : q7) (p1 : q290 × List q236 × List Int × q290 × Unit) := (bif decide (p0.2.1 = (0 : Int)) then decide (q590 p0 p1) else false)
def t114 : Prop :=
  ∀ (x : q6), (q165 x) -> lenB x.1 <= q153 -> q93 <= q89 /\ lenB x.1 <= q153 /\ (∀ (y : q5), (wyZ y.1 /\ wbZ y.2.1 /\ True) -> y.1 = (oneD x.1).1.2 /\ y.2.1 = (decide ((oneD x.1).2 = q56) &&
  decide ((oneD x.1).1.1 = q459)) -> lenB y.1 <= q103 /\ (∀ (y_1 : q32), (q270 y_1) -> (y_1.1, y_1.2.1, y_1.2.2.1) = allD y.1 -> ((!y.2.1) = false -> True) /\ ((!y.2.1) = false -> ((!y.2.1)
  == false) = true /\ True) /\ ((!y.2.1) = false -> ((!y.2.1) == false) = true) /\ ((q487 y y_1) = false -> True) /\ (q285 y y_1) /\ (q285 y y_1) /\ ((q487 y y_1) = false -> ((q487 y y_1) ==
  false) = true) /\ ((q287 y y_1) = false -> True) /\ ((q287 y y_1) = false -> (q286 y y_1) = true /\ (q56 <= q56 /\ q56 < (lnZ y_1.1)) /\ True) /\ (q283 y y_1) /\ (q283 y y_1) /\ (q283 y
  y_1) /\ ((q287 y y_1) = false -> (q286 y y_1) = true) /\ ((q284 y y_1) = true -> attrQ x.1 (q56, bs { data := #[] }) false = true) /\ ((q284 y y_1) = false -> (q56 <= q56 /\ q56 < (lnZ
  y_1.1)) /\ True /\ (∀ (y_2 : q0), (Kd.wf q249 y_2.1 /\ wiZ y_2.2.1 /\ True) -> (y_2.1, y_2.2.1) = DecD (List.getD y_1.1 q477 q486).2 -> ∃ (J : Bool × Unit -> q290 × List q236 × List Int ×
  Unit -> Prop), ((decide (y_2.2.1 ≠ q557) = false -> True) /\ (q279 y_2) /\ (q279 y_2) /\ (decide (y_2.2.1 ≠ q557) = false -> (q481 y_2) = true) /\ ((q289 y_2) = false -> True) /\ ((q289
  y_2) = false -> ((q289 y_2) == false) = true /\ True /\ (∀ (y_3 : q4), (q67 y_3) -> y_3.1 = decide (List.take (List.length [q94, (5 : Int), q453]) y_2.1 = [q94, (5 : Int), q453]) ->
  ((!y_3.1) = true -> attrQ x.1 (q56, bs { data := #[] }) false = true) /\ ((!y_3.1) = false -> y_2.2.1 = y_2.2.1 /\ Value.bool false = Value.bool false /\ y.2.1 = y.2.1 /\ y.1 = y.1 /\ x.1 =
  x.1 /\ J (false, ()) ((q56, bs { data := #[] }, ()), y_1.1, y_2.1, ()))) /\ True) /\ ((q289 y_2) = !false -> attrQ x.1 (q56, bs { data := #[] }) false = true)) /\ ∀ (u : q4) (z : q290 ×
  List q236 × List Int × Unit), (q67 u) -> (wiZ z.1.1 /\ wsZ z.1.2.1 /\ True) /\ (Kd.wf q235 z.2.1 /\ Kd.wf q249 z.2.2.1 /\ True) -> J u z -> ∃ (J : Unit -> q290 × List q236 × List Int × q290
  × Unit -> Prop), ((q56 <= (3 : Int) /\ (3 : Int) < (lnZ z.2.2.1)) /\ (q56 <= q92 /\ q92 < (lnZ z.2.1)) /\ ((q281 y_2 y u x J z) /\ (q93 <= q89 /\ (q282 y_2 y u x J z) /\ True) /\ True) /\
  ((q281 y_2 y u x J z) /\ (q281 y_2 y u x J z) /\ (q93 <= q89 /\ (q282 y_2 y u x J z) /\ (q282 y_2 y u x J z) /\ True) /\ True) /\ (q93 <= q89 /\ ((q282 y_2 y u x J z) /\ True) /\ ((q282 y_2
  y u x J z) /\ (q282 y_2 y u x J z) /\ True) /\ True) /\ True) /\ ∀ (u : Unit) (z : q290 × List q236 × List Int × q290 × Unit), True -> (wiZ z.1.1 /\ wsZ z.1.2.1 /\ True) /\ Kd.wf q235 z.2.1
  /\ Kd.wf q249 z.2.2.1 /\ (wiZ z.2.2.2.1.1 /\ wsZ z.2.2.2.1.2.1 /\ True) /\ True -> J u z -> True /\ (∀ (y : q7), (q113 y) -> y.1 = (kindD z.2.2.2.1.2.1).1 /\ y.2.1 = (kindD z.2.2.2.1.2.1).2
  -> (decide (y.2.1 = (0 : Int)) = true -> (decide (y.2.1 = (0 : Int)) == true) = true /\ (q56 <= q92 /\ q92 < (lnZ z.2.1)) /\ True) /\ (q288 y) /\ (((q288 y) /\ (q280 y z x) /\ True) /\
  True) /\ ((q288 y) /\ ((q280 y z x) /\ True) /\ ((q484 y) /\ (((q485 y) /\ (q482 y z x) /\ True) /\ True) /\ ((q485 y) /\ ((q482 y z x) /\ True) /\ ((q559 y z) /\ ((q558 y z x) /\ True) /\
  (((q483 y z) = true -> (q581 y z) = true /\ True /\ (∀ (y : q4), (q67 y) -> y.1 = mayA (z.2.2.2.1.1, z.2.2.2.1.2.1) -> ((q583 x z y) /\ (q583 x z y) /\ True) /\ ((q583 x z y) /\ True) /\
  True) /\ True) /\ ((q483 y z) = !true -> ((q582 x z) /\ (q582 x z) /\ True) /\ ((q582 x z) /\ True) /\ True)) /\ True) /\ True) /\ True) /\ True) /\ True) /\ True) /\ True)) /\ True) /\
  True
theorem e114 : t114 = Con.vc c_name_attr GL (mkEnvO ty [(132, conSem c_name_only), (113, conSem c_der_All), (133, conSem c_oid_Decode), (134, conSem c_oid_Begins), (135, conSem c_text_Kind), (136, conSem c_name_may)] [] [] [0, 2, 3, 4, 5, 6, 8, 9, 10, 11, 40, 62] [1000000]) {joins := [8,9], news := [(9,10,111)]} Tryz.f114.ntmps Tryz.f114.results.toList (bodyOf Tryz.f114) := by kernel_rfl
theorem k114 : t114 := by
  unfold t114
  delta q6 q165 q153 q93 q89 q5 wyZ wbZ q56 q459 q103 q32 q270 q487 q285 q287 q286 lnZ q283 q284 q0 q249 wiZ q477 q486 q290 q236 q557 q279 q481 q289 q4 q67 q94 q453 wsZ q235 q92 q281 q282 q7 q113 q288 q280 q484 q485 q482 q559 q558 q483 q581 q583 q582 q478 q490 q500 q531 q566 q598 q556 q567 q530 q529 q587 q590
  rintro ⟨b, _⟩ hx hp
  have hp : b.length ≤ 100000000 := hp
  have hb : Bys b := sl_bys hx.1
  try dsimp +instances only [dft_int, dft_sl, dft_str]
  simp only [true_and, and_true, eq_self_iff_true, implies_true, reduceCtorEq, false_implies, true_implies, decide_eq_true_eq, decide_eq_false_iff_not, beq_self_eq_true, Bool.not_eq_true', ne_eq, Decidable.not_not, List.nil_append, List.length_singleton, List.length_cons, List.length_nil, Nat.zero_add, Nat.add_zero, Nat.mul_one, and_self, beq_iff_eq, Bool.not_true, Bool.not_false, Bool.not_eq_false', Bool.cond_false_right, Bool.and_eq_true, imp_self, Bool.not_eq_true, Bool.cond_true_left, Bool.or_eq_true]
  simp only [edft_eq]
  rw [bs_nil]
  have hol := oneD_len b
  refine ⟨by decide, hp, ?_⟩
  rintro ⟨c, ok, _⟩ _ ⟨ec, eok⟩
  simp only at ec eok ⊢
  subst ec
  refine ⟨by rw [lenB]; omega, ?_⟩
  rintro ⟨l, n, e, _⟩ _ el
  simp only at el ⊢
  have hread : ∀ m, mayA m = true → attrB m = b → ok = true ∧ l = [(6, [85, 4, m.1]), elK m] ∧ e = 0 ∧ DecD [85, 4, m.1] = ([2, 5, 4, m.1], 0) := fun m hm he => by
    obtain ⟨r1, r2, r3⟩ := attr_read hm he
    rw [r2] at el
    simp only [Prod.mk.injEq] at el
    refine ⟨?_, el.1, el.2.2, r3⟩
    rw [eok, r1]
    rfl
  refine ⟨fun h => ⟨h, by decide, ?_⟩, fun h => attrQ_bad fun m hm he => ?_, fun h => ?_⟩
  . simp only [Bool.or_eq_false_iff, decide_eq_false_iff_not, Decidable.not_not] at h
    omega
  . obtain ⟨r1, r2, r3, _⟩ := hread m hm he
    subst r2
    rcases h with ((h | h) | h) | h
    . rw [r1] at h; cases h
    . exact h r3
    . exact h rfl
    . exact h rfl
  have hh := h
  rw [Bool.or_eq_false_iff, Bool.or_eq_false_iff, Bool.or_eq_false_iff, Bool.not_eq_false'] at hh
  obtain ⟨⟨⟨k1, k2⟩, k3⟩, k4⟩ := hh
  have k2 := dec_not k2
  have k3 := dec_not k3
  have k4 := dec_not k4
  have hll := two_list (l := l) (by omega)
  refine ⟨⟨by decide, by omega⟩, ?_⟩
  rintro ⟨arcs, e2, _⟩ _ ed
  simp only at ed ⊢
  have hread2 : ∀ m, mayA m = true → attrB m = b → l.getD 1 edft = elK m ∧ arcs = [2, 5, 4, m.1] ∧ e2 = 0 := fun m hm he => by
    obtain ⟨_, r2, _, r4⟩ := hread m hm he
    rw [r2] at ed ⊢
    have := ed.trans r4
    exact ⟨rfl, (Prod.mk.inj this).1, (Prod.mk.inj this).2⟩
  refine ⟨fun _ z => l = z.2.1 ∧ arcs = z.2.2.1 ∧ arcs.length = 4 ∧ arcs.take 3 = [2, 5, 4] ∧ e2 = 0, ⟨fun h => ⟨h, ?_⟩, fun h => attrQ_bad fun m hm he => ?_⟩, ?_⟩
  . rw [Bool.or_eq_false_iff] at h
    have g1 := dec_not h.1
    have g2 := dec_not h.2
    rintro ⟨q, _⟩ _ eq
    simp only at eq ⊢
    subst eq
    refine ⟨fun h => attrQ_bad fun m hm he => ?_, fun h => ⟨by trivial, by trivial, by omega, of_decide_eq_true h, g1⟩⟩
    obtain ⟨_, r3, _⟩ := hread2 m hm he
    rw [r3] at h
    exact absurd h (by simp)
  . obtain ⟨_, r3, r4⟩ := hread2 m hm he
    rcases h with h | h
    . exact h r4
    . rw [r3] at h; exact h rfl
  rintro ⟨u, _⟩ ⟨⟨z1, z2, _⟩, l', arcs', _⟩ _ _ ⟨j1, j2, j3, j4, j5⟩
  simp only at j1 j2 ⊢
  subst j1
  subst j2
  have harc := four_list (l := arcs) j3 j4
  refine ⟨fun _ z => l = z.2.1 ∧ arcs.getD 3 0 = z.2.2.2.1.1 ∧ (l.getD 1 edft).2 = z.2.2.2.1.2.1, ⟨⟨by decide, by omega⟩, ⟨by decide, by omega⟩, by decide, by trivial, by trivial, by trivial⟩, ?_⟩
  rintro _ ⟨⟨z3, z4, _⟩, l2, arcs2, ⟨k, v, _⟩, _⟩ _ ⟨q1, q2, q3⟩
  simp only at q1 q2 q3 ⊢
  subst q1
  subst q2
  subst q3
  rintro ⟨kd, ke, _⟩ _ ⟨hk1, hk2⟩
  simp only at hk1 hk2 ⊢
  refine ⟨fun h => ⟨h, by decide, by omega⟩, fun h => ⟨h, ?_⟩, fun h => attrQ_bad fun m hm he => ?_⟩
  . rintro ⟨q, _⟩ _ eq
    simp only at eq ⊢
    subst eq
    cases hq : mayA (arcs.getD 3 0, (l.getD 1 edft).2) with
    | true =>
      refine attrQ_iff.2 ⟨fun _ => ⟨hq, ?_⟩, fun h => by cases h⟩
      have ek : ok = true := k1
      rw [eok, Bool.and_eq_true, decide_eq_true_eq, decide_eq_true_eq] at ek
      refine read_attr (l := l) (arcs := arcs) hb ek.1 ek.2 (x := l.getD 0 edft) (y := l.getD 1 edft) (n := n) (by rw [← el, k2]; exact Prod.ext hll rfl) k4 ?_ rfl (by rw [← h.2, ← hk1]) hq
      simp only
      rw [← harc, ← ed, j5]
    | false =>
      refine attrQ_bad fun m hm he => ?_
      obtain ⟨r2, r3, _⟩ := hread2 m hm he
      rw [r2, r3] at hq
      have hq : mayA m = false := hq
      rw [hm] at hq
      cases hq
  . obtain ⟨r2, _, _⟩ := hread2 m hm he
    have hkm := (may_kind hm).1
    rw [r2] at hk1 hk2
    have hk2 : ke = (kindD m.2).2 := hk2
    have hk1 : kd = (kindD m.2).1 := hk1
    rw [Bool.and_eq_false_iff] at h
    rcases h with h | h
    . exact of_decide_eq_false h (hk2.trans hkm)
    . exact of_decide_eq_false h (by rw [r2]; exact hk1)
theorem h114 : c_name_attr.ok Tryz.prog GL 114 := conO_ok (H := {joins := [8,9], news := [(9,10,111)]}) (mkEnvO_ok (gl := GL) (l := [(132, conSem c_name_only), (113, conSem c_der_All), (133, conSem c_oid_Decode), (134, conSem c_oid_Begins), (135, conSem c_text_Kind), (136, conSem c_name_may)]) (q := []) (d := []) _ [1000000] tyOk (by kernel_rfl) ⟨h132.call, h113.call, h133.call, h134.call, h135.call, h136.call, trivial⟩ trivial trivial) (by kernel_rfl) (by kernel_rfl) (Eq.mp e114 k114)
def t96 : Prop :=
  ∀ (x : q6), (q165 x) -> lenB x.1 <= q153 -> lenB x.1 <= q103 /\ (∀ (y : q31), (q264 y) -> (y.1, y.2.1) = oneD x.1 -> q93 <= q89 /\ (decide (q271 y) = true -> decQ x.1 [] y.2.1 = true) /\
  (decide (q271 y) = false -> lenB y.1.2 <= q103 /\ (∀ (y_1 : q32), (q270 y_1) -> (y_1.1, y_1.2.1, y_1.2.2.1) = allD y.1.2 -> (decide (q490 y_1) = false -> True) /\ (decide (q490 y_1) = false
  -> (decide (q490 y_1) == false) = true /\ True) /\ (decide (q490 y_1) = false -> (decide (q490 y_1) == false) = true /\ True) /\ (decide (q490 y_1) = false -> (decide (q490 y_1) == false) =
  true) /\ ((q488 y_1 y) = false -> True) /\ (q291 y_1 y) /\ (q291 y_1 y) /\ ((q488 y_1 y) = false -> ((q488 y_1 y) == false) = true) /\ ((q292 y_1 y) = true -> decQ x.1 [] (120 : Int) =
  true) /\ ((q292 y_1 y) = false -> ∃ (I : Int × Int × Unit -> q290 × List q236 × List q236 × List q236 × Unit -> Prop), ∃ (μ : Int × Int × Unit -> q290 × List q236 × List q236 × List q236 ×
  Unit -> Nat), ((lnZ y_1.1) = (lnZ y_1.1) /\ Value.bool false = Value.bool false /\ y_1.2.2.1 = y_1.2.2.1 /\ Value.bool false = Value.bool false /\ y.2.1 = y.2.1 /\ x.1 = x.1 /\ I (q56, q56,
  ()) ((y.1.1, y.1.2, ()), y_1.1, [], [], ())) /\ ∀ (y_2 : q7) (z : q290 × List q236 × List q236 × List q236 × Unit), (q113 y_2) -> (wiZ z.1.1 /\ wyZ z.1.2.1 /\ True) /\ (Kd.wf q235 z.2.1 /\
  Kd.wf q294 z.2.2.1 /\ Kd.wf q294 z.2.2.2.1 /\ True) -> I y_2 z -> (decide (y_2.1 < (lnZ y_1.1)) = true -> (q56 <= y_2.1 /\ y_2.1 < (lnZ z.2.1)) /\ q93 <= q89 /\ lenB (q293 z y_2).2 <= q153
  /\ (∀ (y_3 : q236 × Bool × Unit), (Kd.wf q489 y_3.1 /\ wbZ y_3.2.1 /\ True) -> attrQ (q293 z y_2).2 y_3.1 y_3.2.1 = true -> q93 <= q89 /\ ((!y_3.2.1) = false -> True) /\ ((!y_3.2.1) = false
  -> ((!y_3.2.1) == false) = true /\ True) /\ ((!y_3.2.1) = false -> ((!y_3.2.1) == false) = true /\ True) /\ ((!y_3.2.1) = false -> ((!y_3.2.1) == false) = true) /\ ((bif !y_3.2.1 then true
  else decide ((q293 z y_2).1 ≠ (49 : Int))) = true -> decQ x.1 [] (120 : Int) = true) /\ ((bif !y_3.2.1 then true else decide ((q293 z y_2).1 ≠ (49 : Int))) = false -> q91 < q93 /\
  (List.length z.2.2.1 + List.length [(y_3.1.1, y_3.1.2)]) * (24 : Nat) <= q152 /\ List.length z.2.2.1 + List.length [(y_3.1.1, y_3.1.2)] <= q151 /\ (lnZ y_1.1) = (lnZ y_1.1) /\ Value.bool
  false = Value.bool false /\ y_1.2.2.1 = y_1.2.2.1 /\ Value.bool false = Value.bool false /\ y.2.1 = y.2.1 /\ x.1 = x.1 /\ I (wrZ (q114 y_2), y_2.2.1, ()) ((z.1.1, z.1.2.1, ()), z.2.1,
  z.2.2.1 ++ [(y_3.1.1, y_3.1.2)], z.2.2.2.1, ()) /\ μ (wrZ (q114 y_2), y_2.2.1, ()) ((z.1.1, z.1.2.1, ()), z.2.1, z.2.2.1 ++ [(y_3.1.1, y_3.1.2)], z.2.2.2.1, ()) < μ y_2 z)) /\ True) /\
  (decide (y_2.1 < (lnZ y_1.1)) = false -> decQ x.1 z.2.2.1 q56 = true))) /\ True)) /\ True
theorem e96 : t96 = Con.vc c_name_Decode GL (mkEnv ty [(112, conSem c_der_One), (113, conSem c_der_All), (114, conSem c_name_attr)] [] [] [0, 2, 3, 4, 5, 6, 8, 9, 11, 12, 13, 20, 40, 41, 42, 43, 44, 59]) {} Tryz.f96.ntmps Tryz.f96.results.toList (bodyOf Tryz.f96) := by kernel_rfl
theorem k96 : t96 := by
  unfold t96
  delta q6 q165 q153 q103 q31 q264 q93 q89 q271 q32 q270 q490 q488 q291 q292 q290 q236 lnZ q56 q7 q113 wiZ wyZ q235 q294 q293 q489 wbZ q91 q152 q151 wrZ q114 q478 q452 q557 q459 q486 q566 q491 q598
  rintro ⟨b, _⟩ hx hp
  have hp : b.length ≤ 100000000 := hp
  have hb : Bys b := sl_bys hx.1
  try dsimp +instances only [dft_int, dft_sl, dft_str]
  simp only [true_and, and_true, eq_self_iff_true, implies_true, reduceCtorEq, false_implies, true_implies, decide_eq_true_eq, decide_eq_false_iff_not, beq_self_eq_true, Bool.not_eq_true', ne_eq, Decidable.not_not, List.nil_append, List.length_singleton, List.length_cons, List.length_nil, Nat.zero_add, Nat.add_zero, Nat.mul_one, and_self, beq_iff_eq, Bool.not_true, Bool.not_false, Bool.not_eq_false', Bool.cond_false_right, Bool.and_eq_true, imp_self, Bool.not_eq_true, Bool.cond_true_left, Bool.or_eq_true]
  simp only [edft_eq]
  have hol := oneD_len b
  refine ⟨by rw [lenB]; omega, ?_⟩
  rintro ⟨⟨t, c⟩, e, _⟩ _ e1
  simp only at e1 ⊢
  have o1 : (oneD b).1.1 = t := by rw [← e1]
  have o2 : (oneD b).1.2 = c := by rw [← e1]
  have o3 : (oneD b).2 = e := by rw [← e1]
  rw [o2] at hol
  refine ⟨by decide, fun h => decQ_iff.2 (.inl ⟨by rw [o3]; exact h, o3.symm, rfl⟩), fun h => ⟨by rw [lenB]; omega, ?_⟩⟩
  subst h
  rintro ⟨l, n, e2, _⟩ _ el
  simp only at el ⊢
  have hread : ∀ m, mayN m = true → encN m = b → t = 48 ∧ l = m.map (fun a => ((49 : Int), attrB a)) ∧ e2 = 0 := fun m hm he => by
    obtain ⟨r1, r2⟩ := dec_read hm he
    rw [o2, ← el] at r2
    simp only [Prod.mk.injEq] at r2
    exact ⟨by rw [← o1, r1], r2.1, r2.2.2⟩
  refine ⟨fun h => decQ_bad o3 fun m hm he => ?_, fun h => ?_⟩
  . obtain ⟨r1, r2, r3⟩ := hread m hm he
    have := (mayN_args hm).1
    have hl := congrArg List.length r2
    rw [List.length_map] at hl
    rcases h with (h | h) | h
    . exact h r3
    . exact h r1
    . omega
  simp only [Bool.or_eq_false_iff, decide_eq_false_iff_not, Decidable.not_not] at h
  obtain ⟨⟨k1, k2⟩, k3⟩ := h
  subst k1 k2
  have hel : ∀ x ∈ l, x.2.length ≤ 100000000 := fun x hx => by
    have := (allD_len c).2 x (by rw [← el]; exact hx)
    omega
  refine ⟨fun y z => z.2.1 = l ∧ 0 ≤ y.1 ∧ y.1 ≤ l.length ∧ (∀ a ∈ (z.2.2.1 : List AttrT), mayA a = true) ∧ l.take y.1.toNat = (z.2.2.1 : List AttrT).map (fun a => ((49 : Int), attrB a)), fun y _ => ((l.length : Int) - y.1).toNat, ⟨rfl, Int.le_refl 0, by simp only; omega, (fun a ha => by cases ha), rfl⟩, ?_⟩
  rintro ⟨i, q, _⟩ ⟨⟨t2, c2, _⟩, l2, acc, v, _⟩ _ _ ⟨z1, i0, i1, hA, hz⟩
  simp only at z1 i0 i1 hA hz ⊢
  subst z1
  have hal := congrArg List.length hz
  rw [List.length_take, List.length_map] at hal
  refine ⟨fun hlt => ?_, fun hge => ?_⟩
  . have hst := take_snocA edft l2 i.toNat (by omega)
    have hmem := mem_getD edft l2 i.toNat (by omega)
    have hgi : ∀ m, mayN m = true → encN m = b → ∃ a, mayA a = true ∧ l2.getD i.toNat edft = (49, attrB a) := fun m hm he => by
      obtain ⟨_, r2, _⟩ := hread m hm he
      rw [r2] at hmem
      obtain ⟨a, ha, e⟩ := List.mem_map.1 hmem
      exact ⟨a, (mayN_args hm).2 a ha, by rw [r2]; exact e.symm⟩
    refine ⟨⟨i0, hlt⟩, by decide, by rw [lenB]; exact hel _ hmem, ?_⟩
    rintro ⟨⟨k, v2⟩, ok, _⟩ _ hq
    simp only at hq ⊢
    have hq2 := attrQ_iff.1 hq
    refine ⟨by decide, fun h => decQ_bad o3 fun m hm he => ?_, fun h => ?_⟩
    . obtain ⟨a, ha, ex⟩ := hgi m hm he
      rcases h with h | h
      . exact hq2.2 h a ha (by rw [ex])
      . exact h (by rw [ex])
    . rw [Bool.or_eq_false_iff, Bool.not_eq_false'] at h
      obtain ⟨g1, g2⟩ := hq2.1 h.1
      have h2 := dec_not h.2
      rw [wrapK (i + 1) (by omega) (by omega)]
      refine ⟨by decide, by omega, by omega, ⟨by trivial, by omega, by omega, fun a ha => ?_, ?_⟩, by omega⟩
      . rcases List.mem_append.1 ha with ha | ha
        . exact hA a ha
        . rw [List.mem_singleton.1 ha]; exact g1
      . rw [show (i + 1).toNat = i.toNat + 1 by omega, hst, hz, List.map_append, List.map_singleton, g2, ← h2]
  . rw [List.take_of_length_le (by omega)] at hz
    refine decQ_iff.2 (.inr ⟨o3, .inl ⟨rfl, mayN_of (by omega) hA, enc_sets hb o3 o1 (n := n) ?_⟩⟩)
    rw [o2, ← el, hz]
theorem h96 : c_name_Decode.ok Tryz.prog GL 96 := con_ok (H := {}) (mkEnv_ok (gl := GL) (l := [(112, conSem c_der_One), (113, conSem c_der_All), (114, conSem c_name_attr)]) (q := []) (d := []) _ tyOk (by kernel_rfl) ⟨h112.call, h113.call, h114.call, trivial⟩ trivial trivial) (by kernel_rfl) (by kernel_rfl) (Eq.mp e96 k96)
end Go.Proofs.YtgnlcpoeepfdoaaGreatDoor
end
