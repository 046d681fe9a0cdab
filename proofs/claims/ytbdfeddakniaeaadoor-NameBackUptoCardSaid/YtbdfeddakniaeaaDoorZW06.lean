/- Texts of a verified walk, led together: Name3A, Name3W, Name4A, Name4W, Namp2A, Namp2W. -/
import Derived.Test.YtbdfeddakniaeaaDoorZW05
import Derived.Test.YtbdfeddakniaeaaDoorZV11
import Derived.Test.YtbdfeddakniaeaaDoorZV08
set_option linter.unusedVariables false
set_option linter.unusedSimpArgs false
section
namespace Go.Proofs.YtbdfeddakniaeaaDoor
open Go Go.Vc Go.Pl Go.Proofs
def c_slices_Equal_int_int : Con := { args := [.dat (.sl I64), .dat (.sl I64)], res := [.dat .bool], pre := fun _ => True, post := fun x y => y.1 = decide (x.1 = x.2.1) }
def c_oid_Begins : Con := { args := [.dat (.sl I64), .dat (.sl I64)], res := [.dat .bool], pre := fun _ => True, post := fun x y => y.1 = decide (x.1.take x.2.1.length = x.2.1) }
def c_name_wrap : Con := { args := [.dat I64, .dat (.sl BY)], res := [.own 5 U8], pre := fun x => isTagD x.1 = true ∧ lenF x.2.1 ≤ 16777215, post := fun x y => y.1 = putB (x.1, x.2.1.flatten) }
def c_name_Encode : Con := { args := [.dat (.sl AT)], res := [.own 5 U8, .dat I64], pre := fun x => x.1.length ≤ 1000000000, post := fun x y => (y.1, y.2.1) = EncN x.1 }
def c_name_only : Con := { args := [.dat BY, .dat I64], res := [.dat BY, .dat .bool], pre := fun x => lenB x.1 ≤ 100000000, post := fun x y => y.1 = (oneD x.1).1.2 ∧ y.2.1 = (decide ((oneD x.1).2 = 0) && decide ((oneD x.1).1.1 = x.2.1)) }
end Go.Proofs.YtbdfeddakniaeaaDoor
end
section
namespace Go.Proofs.YtbdfeddakniaeaaDoor
open Go Go.Vc Go.Pl Go.Proofs
set_option linter.unusedVariables false
set_option linter.unusedSimpArgs false
set_option maxRecDepth 20000
theorem adft_eq4 : Kd.dft (Kd.pair (Kd.int IntKind.i64) Kd.str) = adft := rfl
theorem edft_eq : Kd.dft (Kd.pair (Kd.int IntKind.i64) (Kd.sl (Kd.int IntKind.u8))) = edft := rfl
abbrev q132 (p0 : q2) (p1 : q8) := (List.getD p0.1 (Int.toNat p1.1) q207 ≠ List.getD p0.2.1 (Int.toNat p1.1) q207)
abbrev q133 (p0 : q2) := (decide ((lnZ p0.2.1) <= (lnZ p0.1)) == true)
abbrev q134 (p0 : q2) := ((lnZ p0.2.1) <= (lnZ p0.1))
abbrev q135 (p0 : q4) (p1 : List (List Int) × Unit) (p2 : q15) (p3 : Int × Unit -> List (List Int) × Unit -> Prop) (p4 : q1) (p5 : Int × Unit -> List (List Int) × Unit -> Nat) := (((isTagD
  (49 : Int) = true /\ lenF [p0.1] <= (16777215 : Nat)) /\ (∀ (y_6 : q4), (wyZ y_6.1 /\ True) -> y_6.1 = putB ((49 : Int), List.flatten [p0.1]) -> ((q185 < (1 : Nat) /\ (List.length p1.1 +
  List.length [y_6.1]) * (24 : Nat) <= (140737488355328 : Nat) /\ List.length p1.1 + List.length [y_6.1] <= q217 /\ (lnZ p2.1) = (lnZ p2.1) /\ p2.1 = p2.1 /\ Value.bool false = Value.bool
  false /\ q172 = q172 /\ Value.slice none q185 q185 = Value.slice none q185 q185 /\ p2.1 = p2.1 /\ p3 (wrZ (q167 p4), ()) (p1.1 ++ [y_6.1], ()) /\ p5 (wrZ (q167 p4), ()) (p1.1 ++ [y_6.1],
  ()) < p5 p4 p1) /\ True) /\ True) /\ True) /\ True)
abbrev q220 (p0 : q15) (p1 : q1) := (List.getD p0.1 (Int.toNat p1.1) q228)
abbrev q136 (p0 : q5) (p1 : q15) (p2 : q1) := (isTagD p0.1 = true /\ lenF [(q220 p1 p2).2] <= (16777215 : Nat))
abbrev q137 (p0 : q15) (p1 : q1) := (List.getD p0.1 (Int.toNat p1.1) q176)
abbrev q138 (p0 : q4) (p1 : q4) := (isTagD (48 : Int) = true /\ lenF [p0.1, p1.1] <= (16777215 : Nat))
abbrev q139 (p0 : q0) := (isTagD (6 : Int) = true /\ lenF [p0.1] <= (16777215 : Nat))
def t145 : Prop :=
  ∀ (x : q2), (Kd.wf q123 x.1 /\ Kd.wf q123 x.2.1 /\ True) -> True -> (decide ((lnZ x.1) ≠ (lnZ x.2.1)) = true -> false = decide (x.1 = x.2.1)) /\ (decide ((lnZ x.1) ≠ (lnZ x.2.1)) = false ->
  ∃ (I : q6), ∃ (μ : q7), ((lnZ x.1) = (lnZ x.1) /\ Value.bool false = Value.bool false /\ x.1 = x.1 /\ x.2.1 = x.2.1 /\ I (q25, false, ()) ()) /\ ∀ (y : q8) (z : Unit), (q56 y) -> True -> I
  y z -> (decide (y.1 < (lnZ x.1)) = true -> (q25 <= y.1 /\ y.1 < (lnZ x.1)) /\ (q25 <= y.1 /\ y.1 < (lnZ x.2.1)) /\ (decide (q132 x y) = true -> false = decide (x.1 = x.2.1)) /\ (decide
  (q132 x y) = false -> (lnZ x.1) = (lnZ x.1) /\ Value.bool false = Value.bool false /\ x.1 = x.1 /\ x.2.1 = x.2.1 /\ I (wrZ (y.1 + q47), y.2.1, ()) () /\ μ (wrZ (y.1 + q47), y.2.1, ()) () <
  μ y z)) /\ (decide (y.1 < (lnZ x.1)) = false -> true = decide (x.1 = x.2.1)))
theorem e145 : t145 = Con.vc c_slices_Equal_int_int GL (mkEnv ty [] [] [] [0, 1, 4, 5, 10, 12, 13, 14, 24]) {} Tryd.f145.ntmps Tryd.f145.results.toList (bodyOf Tryd.f145) := by kernel_rfl
theorem k145 : t145 := by
  unfold t145
  delta q2 q123 lnZ q6 q7 q25 q8 q56 q132 wrZ q47 q212 wiZ wbZ q207
  rintro ⟨a, b, _⟩ hx hp
  have hl : a.length ≤ 9223372036854775807 := hx.1.1
  try dsimp +instances only [dft_int, dft_sl, dft_str]
  simp only [true_and, and_true, eq_self_iff_true, implies_true, reduceCtorEq, false_implies, true_implies, decide_eq_true_eq, decide_eq_false_iff_not, beq_self_eq_true, Bool.not_eq_true', ne_eq, Decidable.not_not, List.nil_append, List.length_singleton, List.length_cons, List.length_nil, Nat.zero_add, Nat.add_zero, Nat.mul_one, and_self, beq_iff_eq, Bool.not_true, Bool.not_false, Bool.not_eq_false', Bool.cond_false_right, Bool.and_eq_true, imp_self, Bool.not_eq_true, Bool.cond_true_left, Bool.or_eq_true]
  refine ⟨fun h => (decide_eq_false (fun e => h (by rw [e]))).symm, fun h => ?_⟩
  refine ⟨fun y _ => 0 ≤ y.1 ∧ y.1 ≤ a.length ∧ a.take y.1.toNat = b.take y.1.toNat, fun y _ => ((a.length : Int) - y.1).toNat, ⟨Int.le_refl 0, by simp only; omega, rfl⟩, ?_⟩
  rintro ⟨i, q, _⟩ _ _ ⟨i0, i1, e⟩
  simp only at i0 i1 e ⊢
  refine ⟨fun hlt => ⟨⟨i0, hlt⟩, ⟨i0, by omega⟩, fun hne => ?_, fun he => ?_⟩, fun hge => ?_⟩
  . refine (decide_eq_false fun e2 => hne ?_).symm
    rw [e2]
  . rw [wrapM (i + 1) (by omega) (by omega)]
    refine ⟨⟨by omega, by omega, ?_⟩, by omega⟩
    rw [show (i + 1).toNat = i.toNat + 1 by omega, take_snoc a _ (by omega), take_snoc b _ (by omega), e, he]
  . rw [List.take_of_length_le (by omega), List.take_of_length_le (by omega)] at e
    exact (decide_eq_true e).symm
theorem h145 : c_slices_Equal_int_int.ok Tryd.prog GL 145 := con_ok (H := {}) (mkEnv_ok (gl := GL) (l := []) (q := []) (d := []) _ tyOk (by kernel_rfl) trivial trivial trivial) (by kernel_rfl) (by kernel_rfl) (Eq.mp e145 k145)
def t104 : Prop :=
  ∀ (x : q2), (Kd.wf q123 x.1 /\ Kd.wf q123 x.2.1 /\ True) -> True -> (decide (q134 x) = true -> True) /\ (decide (q134 x) = true -> True) /\ (decide (q134 x) = true -> (q133 x) = true /\
  True) /\ (decide (q134 x) = true -> (q133 x) = true /\ (q133 x) = true /\ (q25 <= (lnZ x.2.1) /\ (lnZ x.2.1) <= (lnZ x.1)) /\ True) /\ (decide (q134 x) = true -> True) /\ (decide (q134 x) =
  true -> (q133 x) = true /\ (q133 x) = true /\ True /\ (∀ (y : q9), (q57 y) -> y.1 = decide (List.take (Int.toNat (lnZ x.2.1)) x.1 = x.2.1) -> y.1 = decide (List.take (List.length x.2.1) x.1
  = x.2.1)) /\ True) /\ (decide (q134 x) = !true -> false = decide (List.take (List.length x.2.1) x.1 = x.2.1))
theorem e104 : t104 = Con.vc c_oid_Begins GL (mkEnv ty [(145, conSem c_slices_Equal_int_int)] [] [] [0, 1, 4]) {} Tryd.f104.ntmps Tryd.f104.results.toList (bodyOf Tryd.f104) := by kernel_rfl
theorem k104 : t104 := by
  unfold t104
  delta q2 q123 q134 q133 q25 lnZ q9 q57 q212 wbZ
  rintro ⟨a, b, _⟩ hx hp
  try dsimp +instances only [dft_int, dft_sl, dft_str]
  simp only [true_and, and_true, eq_self_iff_true, implies_true, reduceCtorEq, false_implies, true_implies, decide_eq_true_eq, decide_eq_false_iff_not, beq_self_eq_true, Bool.not_eq_true', ne_eq, Decidable.not_not, List.nil_append, List.length_singleton, List.length_cons, List.length_nil, Nat.zero_add, Nat.add_zero, Nat.mul_one, and_self, beq_iff_eq, Bool.not_true, Bool.not_false, Bool.not_eq_false', Bool.cond_false_right, Bool.and_eq_true, imp_self, Bool.not_eq_true, Bool.cond_true_left, Bool.or_eq_true]
  refine ⟨fun h => ⟨h, h, by omega, h⟩, fun h => ⟨h, h, fun y _ e => ?_⟩, fun h => ?_⟩
  . rw [e, Int.toNat_natCast]
  . refine (decide_eq_false fun e => h ?_).symm
    have := congrArg List.length e
    rw [List.length_take] at this
    omega
theorem h104 : c_oid_Begins.ok Tryd.prog GL 104 := con_ok (H := {}) (mkEnv_ok (gl := GL) (l := [(145, conSem c_slices_Equal_int_int)]) (q := []) (d := []) _ tyOk (by kernel_rfl) ⟨h145.call, trivial⟩ trivial trivial) (by kernel_rfl) (by kernel_rfl) (Eq.mp e104 k104)
def t38 : Prop :=
  ∀ (x : Int × List (List Int) × Unit), (wiZ x.1 /\ Kd.wf q96 x.2.1 /\ True) -> isTagD x.1 = true /\ lenF x.2.1 <= (16777215 : Nat) -> lenB [] <= (900000000 : Nat) /\ (∀ (y : q0), (wyZ y.1 /\
  wiZ y.2.1 /\ True) -> (y.1, y.2.1) = PutD [] x.1 (List.flatten x.2.1) -> y.1 = putB (x.1, List.flatten x.2.1)) /\ True
theorem e38 : t38 = Con.vc c_name_wrap GL (mkEnv ty [(93, conSem c_der_Put)] [] [] [0, 1, 4, 5]) {} Tryd.f38.ntmps Tryd.f38.results.toList (bodyOf Tryd.f38) := by kernel_rfl
theorem k38 : t38 := by
  unfold t38
  delta wiZ q96 q0 wyZ q233
  rintro ⟨t, cs, _⟩ hx hp
  obtain ⟨h1, h2⟩ := hp
  simp only [lenF] at h1 h2
  try dsimp +instances only [dft_int, dft_sl, dft_str]
  simp only [true_and, and_true, eq_self_iff_true, implies_true, reduceCtorEq, false_implies, true_implies, decide_eq_true_eq, decide_eq_false_iff_not, beq_self_eq_true, Bool.not_eq_true', ne_eq, Decidable.not_not, List.nil_append, List.length_singleton, List.length_cons, List.length_nil, Nat.zero_add, Nat.add_zero, Nat.mul_one, and_self, beq_iff_eq, Bool.not_true, Bool.not_false, Bool.not_eq_false', Bool.cond_false_right, Bool.and_eq_true, imp_self, Bool.not_eq_true, Bool.cond_true_left, Bool.or_eq_true]
  refine ⟨by simp [lenB], ?_⟩
  rintro ⟨y, e, _⟩ _ h
  simp only at h ⊢
  rw [put_nil t _ h1 h2] at h
  exact (Prod.mk.inj h).1
theorem h38 : c_name_wrap.ok Tryd.prog GL 38 := con_ok (H := {}) (mkEnv_ok (gl := GL) (l := [(93, conSem c_der_Put)]) (q := []) (d := []) _ tyOk (by kernel_rfl) ⟨h93.call, trivial⟩ trivial trivial) (by kernel_rfl) (by kernel_rfl) (Eq.mp e38 k38)
def t10 : Prop :=
  ∀ (x : q15), (q82 x) -> List.length x.1 <= q69 -> True /\ (∀ (y : q9), (q57 y) -> y.1 = mayN x.1 -> ((!y.1) = true -> ([], (120 : Int)) = EncN x.1) /\ ((!y.1) = false -> ∃ (I : Int × Unit
  -> List (List Int) × Unit -> Prop), ∃ (μ : Int × Unit -> List (List Int) × Unit -> Nat), ((lnZ x.1) = (lnZ x.1) /\ x.1 = x.1 /\ Value.bool false = Value.bool false /\ q25 = q25 /\
  Value.slice none q48 q48 = Value.slice none q48 q48 /\ x.1 = x.1 /\ I (q25, ()) ([], ())) /\ ∀ (y : q1) (z : List (List Int) × Unit), (q21 y) -> (Kd.wf q96 z.1 /\ True) -> I y z -> (decide
  (y.1 < (lnZ x.1)) = true -> (q25 <= y.1 /\ y.1 < (lnZ x.1)) /\ q49 <= q46 /\ True /\ (∀ (y_1 : q5), (q90 y_1) -> y_1.1 = (kindD (q137 x y).2).1 /\ y_1.2.1 = (kindD (q137 x y).2).2 -> True
  /\ (∀ (y_2 : q0), (wyZ y_2.1 /\ wiZ y_2.2.1 /\ True) -> (y_2.1, y_2.2.1) = EncO [q50, (5 : Int), (4 : Int), (q137 x y).1] -> (((q139 y_2) /\ (∀ (y_3 : q4), (q89 y_3) -> y_3.1 = putB ((6 :
  Int), List.flatten [y_2.1]) -> (((((q136 y_1 x y) /\ (∀ (y_4 : q4), (q89 y_4) -> y_4.1 = putB (y_1.1, List.flatten [(q137 x y).2]) -> (((q138 y_3 y_4) /\ (∀ (y_5 : q4), (q89 y_5) -> y_5.1 =
  putB (q55, List.flatten [y_3.1, y_4.1]) -> (q135 y_5 z x I y μ) /\ True) /\ True) /\ True) /\ True) /\ True) /\ True) /\ True) /\ True) /\ True) /\ True) /\ (((q139 y_2) /\ (∀ (y_3 : q4),
  (q89 y_3) -> y_3.1 = putB ((6 : Int), List.flatten [y_2.1]) -> ((((q136 y_1 x y) /\ (∀ (y_4 : q4), (q89 y_4) -> y_4.1 = putB (y_1.1, List.flatten [(q137 x y).2]) -> (((q138 y_3 y_4) /\ (∀
  (y_5 : q4), (q89 y_5) -> y_5.1 = putB (q55, List.flatten [y_3.1, y_4.1]) -> (q135 y_5 z x I y μ) /\ True) /\ True) /\ True) /\ True) /\ True) /\ True) /\ True) /\ True) /\ True) /\ (((q139
  y_2) /\ (∀ (y_3 : q4), (q89 y_3) -> y_3.1 = putB ((6 : Int), List.flatten [y_2.1]) -> (((q136 y_1 x y) /\ (∀ (y_4 : q4), (q89 y_4) -> y_4.1 = putB (y_1.1, List.flatten [(q137 x y).2]) ->
  (((q138 y_3 y_4) /\ (∀ (y_5 : q4), (q89 y_5) -> y_5.1 = putB (q55, List.flatten [y_3.1, y_4.1]) -> (q135 y_5 z x I y μ) /\ True) /\ True) /\ True) /\ True) /\ True) /\ True) /\ True) /\
  True) /\ (((q139 y_2) /\ (∀ (y_3 : q4), (q89 y_3) -> y_3.1 = putB ((6 : Int), List.flatten [y_2.1]) -> ((q136 y_1 x y) /\ (∀ (y_4 : q4), (q89 y_4) -> y_4.1 = putB (y_1.1, List.flatten
  [(q137 x y).2]) -> (((q138 y_3 y_4) /\ (∀ (y_5 : q4), (q89 y_5) -> y_5.1 = putB (q55, List.flatten [y_3.1, y_4.1]) -> (q135 y_5 z x I y μ) /\ True) /\ True) /\ True) /\ True) /\ True) /\
  True) /\ True) /\ True) /\ True) /\ True) /\ True) /\ ((((q139 y_2) /\ (∀ (y_3 : q4), (q89 y_3) -> y_3.1 = putB ((6 : Int), List.flatten [y_2.1]) -> ((((q136 y_1 x y) /\ (∀ (y_4 : q4), (q89
  y_4) -> y_4.1 = putB (y_1.1, List.flatten [(q137 x y).2]) -> (((q138 y_3 y_4) /\ (∀ (y_5 : q4), (q89 y_5) -> y_5.1 = putB (q55, List.flatten [y_3.1, y_4.1]) -> (q135 y_5 z x I y μ) /\ True)
  /\ True) /\ True) /\ True) /\ True) /\ True) /\ True) /\ True) /\ True) /\ (((q139 y_2) /\ (∀ (y_3 : q4), (q89 y_3) -> y_3.1 = putB ((6 : Int), List.flatten [y_2.1]) -> (((q136 y_1 x y) /\
  (∀ (y_4 : q4), (q89 y_4) -> y_4.1 = putB (y_1.1, List.flatten [(q137 x y).2]) -> (((q138 y_3 y_4) /\ (∀ (y_5 : q4), (q89 y_5) -> y_5.1 = putB (q55, List.flatten [y_3.1, y_4.1]) -> (q135 y_5
  z x I y μ) /\ True) /\ True) /\ True) /\ True) /\ True) /\ True) /\ True) /\ True) /\ (((q139 y_2) /\ (∀ (y_3 : q4), (q89 y_3) -> y_3.1 = putB ((6 : Int), List.flatten [y_2.1]) -> ((q136
  y_1 x y) /\ (∀ (y_4 : q4), (q89 y_4) -> y_4.1 = putB (y_1.1, List.flatten [(q137 x y).2]) -> (((q138 y_3 y_4) /\ (∀ (y_5 : q4), (q89 y_5) -> y_5.1 = putB (q55, List.flatten [y_3.1, y_4.1])
  -> (q135 y_5 z x I y μ) /\ True) /\ True) /\ True) /\ True) /\ True) /\ True) /\ True) /\ True) /\ True) /\ True) /\ ((((q139 y_2) /\ (∀ (y_3 : q4), (q89 y_3) -> y_3.1 = putB ((6 : Int),
  List.flatten [y_2.1]) -> (((q136 y_1 x y) /\ (∀ (y_4 : q4), (q89 y_4) -> y_4.1 = putB (y_1.1, List.flatten [(q137 x y).2]) -> (((q138 y_3 y_4) /\ (∀ (y_5 : q4), (q89 y_5) -> y_5.1 = putB
  (q55, List.flatten [y_3.1, y_4.1]) -> (q135 y_5 z x I y μ) /\ True) /\ True) /\ True) /\ True) /\ True) /\ True) /\ True) /\ True) /\ (((q139 y_2) /\ (∀ (y_3 : q4), (q89 y_3) -> y_3.1 =
  putB ((6 : Int), List.flatten [y_2.1]) -> ((q136 y_1 x y) /\ (∀ (y_4 : q4), (q89 y_4) -> y_4.1 = putB (y_1.1, List.flatten [(q137 x y).2]) -> (((q138 y_3 y_4) /\ (∀ (y_5 : q4), (q89 y_5) ->
  y_5.1 = putB (q55, List.flatten [y_3.1, y_4.1]) -> (q135 y_5 z x I y μ) /\ True) /\ True) /\ True) /\ True) /\ True) /\ True) /\ True) /\ True) /\ True) /\ ((((q139 y_2) /\ (∀ (y_3 : q4),
  (q89 y_3) -> y_3.1 = putB ((6 : Int), List.flatten [y_2.1]) -> ((q136 y_1 x y) /\ (∀ (y_4 : q4), (q89 y_4) -> y_4.1 = putB (y_1.1, List.flatten [(q137 x y).2]) -> (((q138 y_3 y_4) /\ (∀
  (y_5 : q4), (q89 y_5) -> y_5.1 = putB (q55, List.flatten [y_3.1, y_4.1]) -> (q135 y_5 z x I y μ) /\ True) /\ True) /\ True) /\ True) /\ True) /\ True) /\ True) /\ True) /\ True) /\ True) /\
  True) /\ True) /\ True) /\ True) /\ (decide (y.1 < (lnZ x.1)) = false -> (isTagD q55 = true /\ lenF z.1 <= (16777215 : Nat)) /\ (∀ (y : q4), (q89 y) -> y.1 = putB (q55, List.flatten z.1) ->
  (y.1, q25) = EncN x.1) /\ True))) /\ True
theorem e10 : t10 = Con.vc c_name_Encode GL (mkEnv ty [(12, conSem c_name_May), (36, conSem c_text_Kind), (37, conSem c_oid_Encode), (38, conSem c_name_wrap)] [] [] [0, 2, 3, 4, 6, 7, 9, 13, 14, 15, 16, 17]) {} Tryd.f10.ntmps Tryd.f10.results.toList (bodyOf Tryd.f10) := by kernel_rfl
theorem k10 : t10 := by
  unfold t10
  delta q15 q82 q69 q9 q57 lnZ q25 q48 q1 q21 q96 q49 q46 q5 q90 q137 q0 wyZ wiZ q50 q139 q4 q89 q136 q138 q55 q135 q174 wbZ q233 q176 q220 q185 q217 q172 wrZ q167 q212 q228
  rintro ⟨n, _⟩ hx hp
  have hp : n.length ≤ 1000000000 := hp
  try dsimp +instances only [dft_int, dft_sl, dft_str]
  simp only [true_and, and_true, eq_self_iff_true, implies_true, reduceCtorEq, false_implies, true_implies, decide_eq_true_eq, decide_eq_false_iff_not, beq_self_eq_true, Bool.not_eq_true', ne_eq, Decidable.not_not, List.nil_append, List.length_singleton, List.length_cons, List.length_nil, Nat.zero_add, Nat.add_zero, Nat.mul_one, and_self, beq_iff_eq, Bool.not_true, Bool.not_false, Bool.not_eq_false', Bool.cond_false_right, Bool.and_eq_true, imp_self, Bool.not_eq_true, Bool.cond_true_left, Bool.or_eq_true]
  simp only [adft_eq4]
  rintro ⟨m, _⟩ _ em
  simp only at em ⊢
  subst em
  refine ⟨fun h => by rw [EncN, if_neg (by rw [h]; decide)], fun h => ?_⟩
  obtain ⟨h16, hA⟩ := mayN_args h
  have hfl := flat_len n hA
  refine ⟨fun y z => 0 ≤ y.1 ∧ y.1 ≤ n.length ∧ z.1 = (n.take y.1.toNat).map attrE, fun y _ => ((n.length : Int) - y.1).toNat, ⟨Int.le_refl 0, by simp only; omega, rfl⟩, ?_⟩
  rintro ⟨i, _⟩ ⟨z, _⟩ _ _ ⟨i0, i1, ez⟩
  simp only at i0 i1 ez ⊢
  have hzl : z.length ≤ n.length := by rw [ez, List.length_map, List.length_take]; omega
  refine ⟨fun hlt => ⟨⟨i0, hlt⟩, by decide, ?_⟩, fun hge => ?_⟩
  . have hm := hA _ (mem_getD adft n i.toNat (by omega))
    have hst : (n.take (i.toNat + 1)).map attrE = z ++ [attrE (n.getD i.toNat adft)] := by rw [take_snocA adft n _ (by omega), List.map_append, ← ez]; rfl
    generalize n.getD i.toNat adft = a at hm hst
    have hv := mayA_len hm
    have hk := (may_kind hm).2
    have hB := attrB_len hm
    have hE := attrE_len hm
    have hr := label_range (mayA_label hm)
    have p1 : (putB (6, [85, 4, a.1])).length = 5 := put_small (x := (6, [85, 4, a.1])) (by simp)
    have p2 : (putB (elK a)).length = 2 + a.2.length := put_small (x := elK a) (by show a.2.length < 128; omega)
    rintro ⟨k, e, _⟩ _ ⟨ek, ee⟩
    simp only at ek ee ⊢
    rintro ⟨o, f, _⟩ _ eo
    simp only at eo ⊢
    rw [enc_oid hm] at eo
    obtain ⟨rfl, rfl⟩ := Prod.mk.inj eo
    refine ⟨⟨by decide, by simp [lenF]⟩, ?_⟩
    rintro ⟨w1, _⟩ _ e1
    simp only [flat_one] at e1 ⊢
    subst e1
    refine ⟨⟨by rw [ek]; rcases hk with h | h <;> rw [h] <;> decide, by rw [lenF, flat_one]; omega⟩, ?_⟩
    rintro ⟨w2, _⟩ _ e2
    simp only at e2 ⊢
    rw [ek] at e2
    have e2 : w2 = putB (elK a) := e2
    subst e2
    refine ⟨⟨by decide, by rw [lenF, flat_two, List.length_append]; omega⟩, ?_⟩
    rintro ⟨w3, _⟩ _ e3
    simp only [flat_two] at e3 ⊢
    have e3 : w3 = attrB a := e3
    subst e3
    refine ⟨⟨by decide, by rw [lenF, flat_one]; omega⟩, ?_⟩
    rintro ⟨w4, _⟩ _ e4
    simp only at e4 ⊢
    have e4 : w4 = attrE a := e4
    subst e4
    rw [wrapK (i + 1) (by omega) (by omega)]
    refine ⟨by decide, by omega, by omega, ⟨by omega, by omega, ?_⟩, by omega⟩
    rw [show (i + 1).toNat = i.toNat + 1 by omega, hst]
  . have ezz : z.flatten = n.flatMap attrE := by rw [ez, List.take_of_length_le (by omega)]; rfl
    refine ⟨⟨by decide, by rw [lenF, ezz]; omega⟩, ?_⟩
    rintro ⟨w, _⟩ _ ew
    simp only at ew ⊢
    rw [ezz] at ew
    rw [ew, EncN, if_pos h]
    rfl
theorem h10 : c_name_Encode.ok Tryd.prog GL 10 := con_ok (H := {}) (mkEnv_ok (gl := GL) (l := [(12, conSem c_name_May), (36, conSem c_text_Kind), (37, conSem c_oid_Encode), (38, conSem c_name_wrap)]) (q := []) (d := []) _ tyOk (by kernel_rfl) ⟨h12.call, h36.call, h37.call, h38.call, trivial⟩ trivial trivial) (by kernel_rfl) (by kernel_rfl) (Eq.mp e10 k10)
def t102 : Prop :=
  ∀ (x : q0), (wyZ x.1 /\ wiZ x.2.1 /\ True) -> lenB x.1 <= q65 -> lenB x.1 <= q69 /\ (∀ (y : q81 × Int × Unit), (Kd.wf q186 y.1 /\ wiZ y.2.1 /\ True) -> (y.1, y.2.1) = oneD x.1 -> q49 <= q46
  /\ (decide (y.2.1 = q25) = true -> True) /\ (decide (y.2.1 = q25) = true -> (decide (y.2.1 = q25) == true) = true /\ True) /\ (decide (y.2.1 = q25) = true -> True) /\ (decide (y.2.1 = q25)
  = true -> (decide (y.2.1 = q25) == true) = true /\ (decide (y.2.1 = q25) == true) = true /\ True) /\ (decide (y.2.1 = q25) = true -> (decide (y.2.1 = q25) == true) = true) /\ y.1.2 = (oneD
  x.1).1.2 /\ (bif decide (y.2.1 = q25) then decide (y.1.1 = x.2.1) else false) = (decide ((oneD x.1).2 = q25) && decide ((oneD x.1).1.1 = x.2.1))) /\ True
theorem e102 : t102 = Con.vc c_name_only GL (mkEnv ty [(43, conSem c_der_One)] [] [] [0, 1, 4, 5, 6, 7]) {} Tryd.f102.ntmps Tryd.f102.results.toList (bodyOf Tryd.f102) := by kernel_rfl
theorem k102 : t102 := by
  unfold t102
  delta q0 wyZ wiZ q65 q69 q81 q186 q49 q46 q25 q212 q233
  rintro ⟨b, t, _⟩ hx hp
  have hp : b.length ≤ 100000000 := hp
  try dsimp +instances only [dft_int, dft_sl, dft_str]
  simp only [true_and, and_true, eq_self_iff_true, implies_true, reduceCtorEq, false_implies, true_implies, decide_eq_true_eq, decide_eq_false_iff_not, beq_self_eq_true, Bool.not_eq_true', ne_eq, Decidable.not_not, List.nil_append, List.length_singleton, List.length_cons, List.length_nil, Nat.zero_add, Nat.add_zero, Nat.mul_one, and_self, beq_iff_eq, Bool.not_true, Bool.not_false, Bool.not_eq_false', Bool.cond_false_right, Bool.and_eq_true, imp_self, Bool.not_eq_true, Bool.cond_true_left, Bool.or_eq_true]
  refine ⟨by rw [lenB]; omega, ?_⟩
  rintro ⟨x, e, _⟩ _ h
  simp only at h ⊢
  rw [← h]
  exact ⟨by decide, rfl, rfl⟩
theorem h102 : c_name_only.ok Tryd.prog GL 102 := con_ok (H := {}) (mkEnv_ok (gl := GL) (l := [(43, conSem c_der_One)]) (q := []) (d := []) _ tyOk (by kernel_rfl) ⟨h43.call, trivial⟩ trivial trivial) (by kernel_rfl) (by kernel_rfl) (Eq.mp e102 k102)
end Go.Proofs.YtbdfeddakniaeaaDoor
end
section
namespace Go.Proofs.YtbdfeddakniaeaaDoor
open Go Go.Vc Go.Pl Go.Proofs
def c_name_attr : Con := { args := [.dat BY], res := [.dat AT, .dat .bool], pre := fun x => lenB x.1 ≤ 100000000, post := fun x y => attrQ x.1 y.1 y.2.1 = true }
def c_name_Decode : Con := { args := [.dat BY], res := [.own 58 AT, .dat I64], pre := fun x => lenB x.1 ≤ 100000000, post := fun x y => decQ x.1 y.1 y.2.1 = true }
end Go.Proofs.YtbdfeddakniaeaaDoor
end
section
namespace Go.Proofs.YtbdfeddakniaeaaDoor
open Go Go.Vc Go.Pl Go.Proofs
set_option linter.unusedVariables false
set_option linter.unusedSimpArgs false
set_option maxRecDepth 20000
abbrev q189 (p0 : q5) := (decide (p0.2.1 = (0 : Int)) = true -> (decide (p0.2.1 = (0 : Int)) == true) = true /\ (decide (p0.2.1 = (0 : Int)) == true) = true /\ True)
abbrev q190 (p0 : q5) := (decide (p0.2.1 = (0 : Int)) = true -> (decide (p0.2.1 = (0 : Int)) == true) = true)
abbrev q232 := (Kd.pair (Kd.int IntKind.i64) (Kd.sl q233))
abbrev q221 := (Kd.dft q232)
abbrev q209 (p0 : q5) (p1 : (Int × List Int × Unit) × List (Int × List Int) × List Int × (Int × List Int × Unit) × Unit) := (bif decide (p0.2.1 = (0 : Int)) then decide (p0.1 = (List.getD
  p1.2.1 (1 : Nat) q221).1) else false)
abbrev q140 (p0 : q5) (p1 : (Int × List Int × Unit) × List (Int × List Int) × List Int × (Int × List Int × Unit) × Unit) (p2 : q4) := ((q189 p0) /\ ((q190 p0) /\ (((q209 p0 p1) = true ->
  True) /\ (((q209 p0 p1) = true -> ((q209 p0 p1) == true) = true /\ True /\ (∀ (y : q9), (wbZ y.1 /\ True) -> y.1 = mayA (p1.2.2.2.1.1, p1.2.2.2.1.2.1) -> (attrQ p2.1 (p1.2.2.2.1.1,
  p1.2.2.2.1.2.1) y.1 = true /\ True) /\ (attrQ p2.1 (p1.2.2.2.1.1, p1.2.2.2.1.2.1) y.1 = true /\ True) /\ True) /\ True) /\ ((q209 p0 p1) = !true -> (attrQ p2.1 (p1.2.2.2.1.1,
  p1.2.2.2.1.2.1) false = true /\ True) /\ (attrQ p2.1 (p1.2.2.2.1.1, p1.2.2.2.1.2.1) false = true /\ True) /\ True)) /\ True) /\ True) /\ True)
abbrev q210 (p0 : q0) (p1 : List Int × Bool × Unit) (p2 : q9) (p3 : q4) (p4 : Unit -> (Int × List Int × Unit) × List (Int × List Int) × List Int × (Int × List Int × Unit) × Unit -> Prop)
  (p5 : (Int × List Int × Unit) × List (Int × List Int) × List Int × Unit) := ((p0.2.1 = p0.2.1 /\ Value.bool false = Value.bool false /\ p1.2.1 = p1.2.1 /\ p1.1 = p1.1 /\ p2.1 = p2.1 /\ p3.1
  = p3.1 /\ p4 () ((p5.1.1, p5.1.2.1, ()), p5.2.1, p5.2.2.1, (List.getD p5.2.2.1 (3 : Nat) (Kd.dft q212), (List.getD p5.2.1 (1 : Nat) q221).2, ()), ())) /\ True)
abbrev q141 (p0 : q0) (p1 : List Int × Bool × Unit) (p2 : q9) (p3 : q4) (p4 : Unit -> (Int × List Int × Unit) × List (Int × List Int) × List Int × (Int × List Int × Unit) × Unit -> Prop)
  (p5 : (Int × List Int × Unit) × List (Int × List Int) × List Int × Unit) := (((((2 : Nat) <= (65536 : Nat) /\ (p0.2.1 = p0.2.1 /\ Value.bool false = Value.bool false /\ p1.2.1 = p1.2.1 /\
  p1.1 = p1.1 /\ p2.1 = p2.1 /\ p3.1 = p3.1 /\ p4 () ((p5.1.1, p5.1.2.1, ()), p5.2.1, p5.2.2.1, (List.getD p5.2.2.1 (3 : Nat) (Kd.dft q212), (List.getD p5.2.1 (1 : Nat) q221).2, ()), ())) /\
  True) /\ True) /\ ((2 : Nat) <= (65536 : Nat) /\ (q210 p0 p1 p2 p3 p4 p5) /\ True) /\ True) /\ ((2 : Nat) <= (65536 : Nat) /\ ((q210 p0 p1 p2 p3 p4 p5) /\ True) /\ True) /\ True)
abbrev q142 (p0 : q0) (p1 : List Int × Bool × Unit) (p2 : q9) (p3 : q4) (p4 : Unit -> (Int × List Int × Unit) × List (Int × List Int) × List Int × (Int × List Int × Unit) × Unit -> Prop)
  (p5 : (Int × List Int × Unit) × List (Int × List Int) × List Int × Unit) := (((q210 p0 p1 p2 p3 p4 p5) /\ True) /\ True)
abbrev q143 (p0 : List Int × Bool × Unit) (p1 : List (Int × List Int) × Int × Int × Unit) := ((bif bif !p0.2.1 then true else decide (p1.2.2.1 ≠ q172) then true else decide ((lnZ p1.1) ≠
  q181)) = false -> ((bif bif !p0.2.1 then true else decide (p1.2.2.1 ≠ q172) then true else decide ((lnZ p1.1) ≠ q181)) == false) = true /\ True)
abbrev q191 := (Kd.dft q232)
abbrev q144 (p0 : List Int × Bool × Unit) (p1 : List (Int × List Int) × Int × Int × Unit) := (bif bif bif !p0.2.1 then true else decide (p1.2.2.1 ≠ q172) then true else decide ((lnZ p1.1) ≠
  q181) then true else decide ((List.getD p1.1 q185 q191).1 ≠ (6 : Int)))
abbrev q145 (p0 : List Int × Bool × Unit) (p1 : List (Int × List Int) × Int × Int × Unit) := (bif bif !p0.2.1 then true else decide (p1.2.2.1 ≠ q172) then true else decide ((lnZ p1.1) ≠
  q181))
abbrev q146 (p0 : q5) := (decide (p0.2.1 = (0 : Int)) = true -> (decide (p0.2.1 = (0 : Int)) == true) = true /\ True)
abbrev q147 (p0 : q0) := (bif decide (p0.2.1 ≠ q172) then true else decide ((lnZ p0.1) ≠ (4 : Int)))
abbrev q148 (p0 : List Int × Bool × Unit) (p1 : List (Int × List Int) × Int × Int × Unit) := (bif !p0.2.1 then true else decide (p1.2.2.1 ≠ q172))
abbrev q149 := (Int × List Int × Unit)
abbrev q150 (p0 : List (Int × List Int) × Int × Int × Unit) (p1 : (Int × List Int) × Int × Unit) := ((bif decide (p0.2.2.1 ≠ q172) then true else decide (p1.1.1 ≠ (48 : Int))) = false ->
  ((bif decide (p0.2.2.1 ≠ q172) then true else decide (p1.1.1 ≠ (48 : Int))) == false) = true /\ True)
abbrev q151 (p0 : (Int × List Int × Unit) × List (Int × List Int) × List (Int × List Int) × List (Int × List Int) × Unit) (p1 : q5) := (List.getD p0.2.1 (Int.toNat p1.1) q191)
abbrev q152 := (Kd.sl q174)
abbrev q231 (p0 : q5) (p1 : q149 × List q81 × List Int × q149 × Unit) := (p0.1 = (List.getD p1.2.1 (1 : Nat) (Kd.dft q232)).1)
abbrev q230 (p0 : q5) (p1 : q149 × List q81 × List Int × q149 × Unit) := (bif decide (p0.2.1 = (0 : Int)) then decide (q231 p0 p1) else false)
abbrev q214 (p0 : q5) (p1 : q149 × List q81 × List Int × q149 × Unit) := ((q230 p0 p1) = true -> True)
abbrev q224 (p0 : q5) (p1 : q149 × List q81 × List Int × q149 × Unit) := ((bif decide (p0.2.1 = (0 : Int)) then decide (q231 p0 p1) else false) == true)
abbrev q226 (p0 : q4) (p1 : q149 × List q81 × List Int × q149 × Unit) (p2 : q9) := (attrQ p0.1 (p1.2.2.2.1.1, p1.2.2.2.1.2.1) p2.1 = true /\ True)
abbrev q225 (p0 : q4) (p1 : q149 × List q81 × List Int × q149 × Unit) := (attrQ p0.1 (p1.2.2.2.1.1, p1.2.2.2.1.2.1) false = true /\ True)
abbrev q213 (p0 : q5) (p1 : q149 × List q81 × List Int × q149 × Unit) (p2 : q4) := (((q230 p0 p1) = true -> (q224 p0 p1) = true /\ True /\ (∀ (y : q9), (wbZ y.1 /\ True) -> y.1 = mayA
  (p1.2.2.2.1.1, p1.2.2.2.1.2.1) -> (q226 p2 p1 y) /\ (q226 p2 p1 y) /\ True) /\ True) /\ ((q230 p0 p1) = !true -> (q225 p2 p1) /\ (q225 p2 p1) /\ True))
abbrev q187 (p0 : q5) (p1 : q149 × List q81 × List Int × q149 × Unit) (p2 : q4) := ((q214 p0 p1) /\ (q213 p0 p1 p2) /\ True)
abbrev q188 (p0 : q5) (p1 : q149 × List q81 × List Int × q149 × Unit) := (bif decide (p0.2.1 = (0 : Int)) then decide (q231 p0 p1) else false)
abbrev q192 (p0 : List q81 × Int × Int × Unit) := (p0.2.2.1 ≠ q229)
def t45 : Prop :=
  ∀ (x : q4), (q89 x) -> lenB x.1 <= q65 -> q49 <= q46 /\ lenB x.1 <= q65 /\ (∀ (y : List Int × Bool × Unit), (wyZ y.1 /\ wbZ y.2.1 /\ True) -> y.1 = (oneD x.1).1.2 /\ y.2.1 = (decide ((oneD
  x.1).2 = q25) && decide ((oneD x.1).1.1 = q55)) -> lenB y.1 <= q69 /\ (∀ (y_1 : List q81 × Int × Int × Unit), (Kd.wf q119 y_1.1 /\ wiZ y_1.2.1 /\ wiZ y_1.2.2.1 /\ True) -> (y_1.1, y_1.2.1,
  y_1.2.2.1) = allD y.1 -> ((!y.2.1) = false -> True) /\ ((!y.2.1) = false -> ((!y.2.1) == false) = true /\ True) /\ ((!y.2.1) = false -> ((!y.2.1) == false) = true) /\ ((q148 y y_1) = false
  -> True) /\ ((q148 y y_1) = false -> ((q148 y y_1) == false) = true /\ True) /\ ((q148 y y_1) = false -> ((q148 y y_1) == false) = true /\ True) /\ ((q148 y y_1) = false -> ((q148 y y_1) ==
  false) = true) /\ ((q145 y y_1) = false -> True) /\ ((q145 y y_1) = false -> ((bif bif !y.2.1 then true else decide (q192 y_1) then true else decide ((lnZ y_1.1) ≠ q181)) == false) = true
  /\ (q25 <= q25 /\ q25 < (lnZ y_1.1)) /\ True) /\ (q143 y y_1) /\ (q143 y y_1) /\ (q143 y y_1) /\ ((q145 y y_1) = false -> ((bif bif !y.2.1 then true else decide (q192 y_1) then true else
  decide ((lnZ y_1.1) ≠ q181)) == false) = true) /\ ((q144 y y_1) = true -> attrQ x.1 (q25, bs { data := #[] }) false = true) /\ ((q144 y y_1) = false -> (q25 <= q25 /\ q25 < (lnZ y_1.1)) /\
  True /\ (∀ (y_2 : q0), (Kd.wf q123 y_2.1 /\ wiZ y_2.2.1 /\ True) -> (y_2.1, y_2.2.1) = DecD (List.getD y_1.1 q185 q191).2 -> ∃ (J : Bool × Unit -> q149 × List q81 × List Int × Unit ->
  Prop), ((decide (y_2.2.1 ≠ q25) = false -> True) /\ (decide (y_2.2.1 ≠ q25) = false -> (decide (y_2.2.1 ≠ q25) == false) = true /\ True) /\ (decide (y_2.2.1 ≠ q25) = false -> (decide
  (y_2.2.1 ≠ q25) == false) = true /\ True) /\ (decide (y_2.2.1 ≠ q25) = false -> (decide (y_2.2.1 ≠ q25) == false) = true) /\ ((q147 y_2) = false -> True) /\ ((q147 y_2) = false -> ((q147
  y_2) == false) = true /\ True /\ (∀ (y_3 : q9), (q57 y_3) -> y_3.1 = decide (List.take (List.length [q50, (5 : Int), (4 : Int)]) y_2.1 = [q50, (5 : Int), (4 : Int)]) -> ((!y_3.1) = true ->
  attrQ x.1 (q25, bs { data := #[] }) false = true) /\ ((!y_3.1) = false -> y_2.2.1 = y_2.2.1 /\ Value.bool false = Value.bool false /\ y.2.1 = y.2.1 /\ y.1 = y.1 /\ x.1 = x.1 /\ J (false,
  ()) ((q25, bs { data := #[] }, ()), y_1.1, y_2.1, ()))) /\ True) /\ ((q147 y_2) = !false -> attrQ x.1 (q25, bs { data := #[] }) false = true)) /\ ∀ (u : q9) (z : q149 × List q81 × List Int
  × Unit), (q57 u) -> (wiZ z.1.1 /\ wsZ z.1.2.1 /\ True) /\ (Kd.wf q119 z.2.1 /\ Kd.wf q123 z.2.2.1 /\ True) -> J u z -> ∃ (J : Unit -> q149 × List q81 × List Int × q149 × Unit -> Prop),
  ((q25 <= (3 : Int) /\ (3 : Int) < (lnZ z.2.2.1)) /\ (q25 <= q47 /\ q47 < (lnZ z.2.1)) /\ ((q141 y_2 y u x J z) /\ (q49 <= q46 /\ (q142 y_2 y u x J z) /\ True) /\ True) /\ ((q141 y_2 y u x J
  z) /\ (q141 y_2 y u x J z) /\ (q49 <= q46 /\ (q142 y_2 y u x J z) /\ (q142 y_2 y u x J z) /\ True) /\ True) /\ (q49 <= q46 /\ ((q142 y_2 y u x J z) /\ True) /\ ((q142 y_2 y u x J z) /\
  (q142 y_2 y u x J z) /\ True) /\ True) /\ True) /\ ∀ (u : Unit) (z : q149 × List q81 × List Int × q149 × Unit), True -> (wiZ z.1.1 /\ wsZ z.1.2.1 /\ True) /\ Kd.wf q119 z.2.1 /\ Kd.wf q123
  z.2.2.1 /\ (wiZ z.2.2.2.1.1 /\ wsZ z.2.2.2.1.2.1 /\ True) /\ True -> J u z -> True /\ (∀ (y : q5), (q90 y) -> y.1 = (kindD z.2.2.2.1.2.1).1 /\ y.2.1 = (kindD z.2.2.2.1.2.1).2 -> (decide
  (y.2.1 = (0 : Int)) = true -> (decide (y.2.1 = (0 : Int)) == true) = true /\ (q25 <= q47 /\ q47 < (lnZ z.2.1)) /\ True) /\ (q146 y) /\ (((q146 y) /\ (q140 y z x) /\ True) /\ True) /\ ((q146
  y) /\ ((q140 y z x) /\ True) /\ ((q189 y) /\ (((q190 y) /\ (q187 y z x) /\ True) /\ True) /\ ((q190 y) /\ ((q187 y z x) /\ True) /\ ((q214 y z) /\ ((q213 y z x) /\ True) /\ (((q188 y z) =
  true -> (q224 y z) = true /\ True /\ (∀ (y : q9), (q57 y) -> y.1 = mayA (z.2.2.2.1.1, z.2.2.2.1.2.1) -> ((q226 x z y) /\ (q226 x z y) /\ True) /\ ((q226 x z y) /\ True) /\ True) /\ True) /\
  ((q188 y z) = !true -> ((q225 x z) /\ (q225 x z) /\ True) /\ ((q225 x z) /\ True) /\ True)) /\ True) /\ True) /\ True) /\ True) /\ True) /\ True) /\ True)) /\ True) /\ True
theorem e45 : t45 = Con.vc c_name_attr GL (mkEnvO ty [(102, conSem c_name_only), (44, conSem c_der_All), (103, conSem c_oid_Decode), (104, conSem c_oid_Begins), (36, conSem c_text_Kind), (42, conSem c_name_may)] [] [] [0, 2, 3, 4, 5, 6, 8, 9, 10, 11, 40, 62] [1000000]) {joins := [8,9], news := [(9,10,58)]} Tryd.f45.ntmps Tryd.f45.results.toList (bodyOf Tryd.f45) := by kernel_rfl
theorem k45 : t45 := by
  unfold t45
  delta q4 q89 q65 q49 q46 wyZ wbZ q25 q55 q69 q81 q119 wiZ q148 q145 q192 lnZ q181 q143 q144 q0 q123 q185 q191 q149 q147 q9 q57 q50 wsZ q47 q141 q142 q5 q90 q146 q140 q189 q190 q187 q214 q213 q188 q224 q226 q225 q186 q172 q229 q212 q232 q221 q210 q209 q230 q231 q233
  rintro ⟨b, _⟩ hx hp
  have hp : b.length ≤ 100000000 := hp
  have hb : Bys b := sl_bys hx.1
  try dsimp +instances only [dft_int, dft_sl, dft_str]
  simp only [true_and, and_true, eq_self_iff_true, implies_true, reduceCtorEq, false_implies, true_implies, decide_eq_true_eq, decide_eq_false_iff_not, beq_self_eq_true, Bool.not_eq_true', ne_eq, Decidable.not_not, List.nil_append, List.length_singleton, List.length_cons, List.length_nil, Nat.zero_add, Nat.add_zero, Nat.mul_one, and_self, beq_iff_eq, Bool.not_true, Bool.not_false, Bool.not_eq_false', Bool.cond_false_right, Bool.and_eq_true, imp_self, Bool.not_eq_true, Bool.cond_true_left, Bool.or_eq_true]
  simp only [edft_eq]
  rw [bs_nil]
  have hol := oneD_len b
  refine ⟨by decide, hp, ?_⟩
  rintro ⟨c, ok, _⟩ _ ⟨ec, eok⟩
  simp only at ec eok ⊢
  subst ec
  refine ⟨by rw [lenB]; omega, ?_⟩
  rintro ⟨l, n, e, _⟩ _ el
  simp only at el ⊢
  have hread : ∀ m, mayA m = true → attrB m = b → ok = true ∧ l = [(6, [85, 4, m.1]), elK m] ∧ e = 0 ∧ DecD [85, 4, m.1] = ([2, 5, 4, m.1], 0) := fun m hm he => by
    obtain ⟨r1, r2, r3⟩ := attr_read hm he
    rw [r2] at el
    simp only [Prod.mk.injEq] at el
    refine ⟨?_, el.1, el.2.2, r3⟩
    rw [eok, r1]
    rfl
  refine ⟨fun h => ⟨h, by decide, ?_⟩, fun h => attrQ_bad fun m hm he => ?_, fun h => ?_⟩
  . simp only [Bool.or_eq_false_iff, decide_eq_false_iff_not, Decidable.not_not] at h
    omega
  . obtain ⟨r1, r2, r3, _⟩ := hread m hm he
    subst r2
    rcases h with ((h | h) | h) | h
    . rw [r1] at h; cases h
    . exact h r3
    . exact h rfl
    . exact h rfl
  have hh := h
  rw [Bool.or_eq_false_iff, Bool.or_eq_false_iff, Bool.or_eq_false_iff, Bool.not_eq_false'] at hh
  obtain ⟨⟨⟨k1, k2⟩, k3⟩, k4⟩ := hh
  have k2 := dec_not k2
  have k3 := dec_not k3
  have k4 := dec_not k4
  have hll := two_list (l := l) (by omega)
  refine ⟨⟨by decide, by omega⟩, ?_⟩
  rintro ⟨arcs, e2, _⟩ _ ed
  simp only at ed ⊢
  have hread2 : ∀ m, mayA m = true → attrB m = b → l.getD 1 edft = elK m ∧ arcs = [2, 5, 4, m.1] ∧ e2 = 0 := fun m hm he => by
    obtain ⟨_, r2, _, r4⟩ := hread m hm he
    rw [r2] at ed ⊢
    have := ed.trans r4
    exact ⟨rfl, (Prod.mk.inj this).1, (Prod.mk.inj this).2⟩
  refine ⟨fun _ z => l = z.2.1 ∧ arcs = z.2.2.1 ∧ arcs.length = 4 ∧ arcs.take 3 = [2, 5, 4] ∧ e2 = 0, ⟨fun h => ⟨h, ?_⟩, fun h => attrQ_bad fun m hm he => ?_⟩, ?_⟩
  . rw [Bool.or_eq_false_iff] at h
    have g1 := dec_not h.1
    have g2 := dec_not h.2
    rintro ⟨q, _⟩ _ eq
    simp only at eq ⊢
    subst eq
    refine ⟨fun h => attrQ_bad fun m hm he => ?_, fun h => ⟨by trivial, by trivial, by omega, of_decide_eq_true h, g1⟩⟩
    obtain ⟨_, r3, _⟩ := hread2 m hm he
    rw [r3] at h
    exact absurd h (by simp)
  . obtain ⟨_, r3, r4⟩ := hread2 m hm he
    rcases h with h | h
    . exact h r4
    . rw [r3] at h; exact h rfl
  rintro ⟨u, _⟩ ⟨⟨z1, z2, _⟩, l', arcs', _⟩ _ _ ⟨j1, j2, j3, j4, j5⟩
  simp only at j1 j2 ⊢
  subst j1
  subst j2
  have harc := four_list (l := arcs) j3 j4
  refine ⟨fun _ z => l = z.2.1 ∧ arcs.getD 3 0 = z.2.2.2.1.1 ∧ (l.getD 1 edft).2 = z.2.2.2.1.2.1, ⟨⟨by decide, by omega⟩, ⟨by decide, by omega⟩, by decide, by trivial, by trivial, by trivial⟩, ?_⟩
  rintro _ ⟨⟨z3, z4, _⟩, l2, arcs2, ⟨k, v, _⟩, _⟩ _ ⟨q1, q2, q3⟩
  simp only at q1 q2 q3 ⊢
  subst q1
  subst q2
  subst q3
  rintro ⟨kd, ke, _⟩ _ ⟨hk1, hk2⟩
  simp only at hk1 hk2 ⊢
  refine ⟨fun h => ⟨h, by decide, by omega⟩, fun h => ⟨h, ?_⟩, fun h => attrQ_bad fun m hm he => ?_⟩
  . rintro ⟨q, _⟩ _ eq
    simp only at eq ⊢
    subst eq
    cases hq : mayA (arcs.getD 3 0, (l.getD 1 edft).2) with
    | true =>
      refine attrQ_iff.2 ⟨fun _ => ⟨hq, ?_⟩, fun h => by cases h⟩
      have ek : ok = true := k1
      rw [eok, Bool.and_eq_true, decide_eq_true_eq, decide_eq_true_eq] at ek
      refine read_attr (l := l) (arcs := arcs) hb ek.1 ek.2 (x := l.getD 0 edft) (y := l.getD 1 edft) (n := n) (by rw [← el, k2]; exact Prod.ext hll rfl) k4 ?_ rfl (by rw [← h.2, ← hk1]) hq
      simp only
      rw [← harc, ← ed, j5]
    | false =>
      refine attrQ_bad fun m hm he => ?_
      obtain ⟨r2, r3, _⟩ := hread2 m hm he
      rw [r2, r3] at hq
      have hq : mayA m = false := hq
      rw [hm] at hq
      cases hq
  . obtain ⟨r2, _, _⟩ := hread2 m hm he
    have hkm := (may_kind hm).1
    rw [r2] at hk1 hk2
    have hk2 : ke = (kindD m.2).2 := hk2
    have hk1 : kd = (kindD m.2).1 := hk1
    rw [Bool.and_eq_false_iff] at h
    rcases h with h | h
    . exact of_decide_eq_false h (hk2.trans hkm)
    . exact of_decide_eq_false h (by rw [r2]; exact hk1)
theorem h45 : c_name_attr.ok Tryd.prog GL 45 := conO_ok (H := {joins := [8,9], news := [(9,10,58)]}) (mkEnvO_ok (gl := GL) (l := [(102, conSem c_name_only), (44, conSem c_der_All), (103, conSem c_oid_Decode), (104, conSem c_oid_Begins), (36, conSem c_text_Kind), (42, conSem c_name_may)]) (q := []) (d := []) _ [1000000] tyOk (by kernel_rfl) ⟨h102.call, h44.call, h103.call, h104.call, h36.call, h42.call, trivial⟩ trivial trivial) (by kernel_rfl) (by kernel_rfl) (Eq.mp e45 k45)
def t14 : Prop :=
  ∀ (x : q4), (q89 x) -> lenB x.1 <= q65 -> lenB x.1 <= q69 /\ (∀ (y : q81 × Int × Unit), (Kd.wf q186 y.1 /\ wiZ y.2.1 /\ True) -> (y.1, y.2.1) = oneD x.1 -> q49 <= q46 /\ (decide (y.2.1 ≠
  q25) = true -> decQ x.1 [] y.2.1 = true) /\ (decide (y.2.1 ≠ q25) = false -> lenB y.1.2 <= q69 /\ (∀ (y_1 : List q81 × Int × Int × Unit), (Kd.wf q119 y_1.1 /\ wiZ y_1.2.1 /\ wiZ y_1.2.2.1
  /\ True) -> (y_1.1, y_1.2.1, y_1.2.2.1) = allD y.1.2 -> (decide (q192 y_1) = false -> True) /\ (decide (q192 y_1) = false -> (decide (q192 y_1) == false) = true /\ True) /\ (decide (q192
  y_1) = false -> (decide (q192 y_1) == false) = true /\ True) /\ (decide (q192 y_1) = false -> (decide (q192 y_1) == false) = true) /\ ((bif decide (q192 y_1) then true else decide (y.1.1 ≠
  (48 : Int))) = false -> True) /\ (q150 y_1 y) /\ (q150 y_1 y) /\ ((bif decide (q192 y_1) then true else decide (y.1.1 ≠ (48 : Int))) = false -> ((bif decide (q192 y_1) then true else decide
  (y.1.1 ≠ (48 : Int))) == false) = true) /\ ((bif bif decide (q192 y_1) then true else decide (y.1.1 ≠ q55) then true else decide ((16 : Int) < (lnZ y_1.1))) = true -> decQ x.1 [] (120 :
  Int) = true) /\ ((bif bif decide (q192 y_1) then true else decide (y.1.1 ≠ q55) then true else decide ((16 : Int) < (lnZ y_1.1))) = false -> ∃ (I : Int × Int × Unit -> q149 × List q81 ×
  List q81 × List q81 × Unit -> Prop), ∃ (μ : Int × Int × Unit -> q149 × List q81 × List q81 × List q81 × Unit -> Nat), ((lnZ y_1.1) = (lnZ y_1.1) /\ Value.bool false = Value.bool false /\
  y_1.2.2.1 = y_1.2.2.1 /\ Value.bool false = Value.bool false /\ y.2.1 = y.2.1 /\ x.1 = x.1 /\ I (q25, q25, ()) ((y.1.1, y.1.2, ()), y_1.1, [], [], ())) /\ ∀ (y_2 : q5) (z : q149 × List q81
  × List q81 × List q81 × Unit), (q90 y_2) -> (wiZ z.1.1 /\ wyZ z.1.2.1 /\ True) /\ (Kd.wf q119 z.2.1 /\ Kd.wf q152 z.2.2.1 /\ Kd.wf q152 z.2.2.2.1 /\ True) -> I y_2 z -> (decide (y_2.1 <
  (lnZ y_1.1)) = true -> (q25 <= y_2.1 /\ y_2.1 < (lnZ z.2.1)) /\ q49 <= q46 /\ lenB (q151 z y_2).2 <= q65 /\ (∀ (y_3 : q81 × Bool × Unit), (Kd.wf q174 y_3.1 /\ wbZ y_3.2.1 /\ True) -> attrQ
  (q151 z y_2).2 y_3.1 y_3.2.1 = true -> q49 <= q46 /\ ((!y_3.2.1) = false -> True) /\ ((!y_3.2.1) = false -> ((!y_3.2.1) == false) = true /\ True) /\ ((!y_3.2.1) = false -> ((!y_3.2.1) ==
  false) = true /\ True) /\ ((!y_3.2.1) = false -> ((!y_3.2.1) == false) = true) /\ ((bif !y_3.2.1 then true else decide ((q151 z y_2).1 ≠ (49 : Int))) = true -> decQ x.1 [] (120 : Int) =
  true) /\ ((bif !y_3.2.1 then true else decide ((q151 z y_2).1 ≠ (49 : Int))) = false -> q48 < q49 /\ (List.length z.2.2.1 + List.length [(y_3.1.1, y_3.1.2)]) * (24 : Nat) <= q64 /\
  List.length z.2.2.1 + List.length [(y_3.1.1, y_3.1.2)] <= q63 /\ (lnZ y_1.1) = (lnZ y_1.1) /\ Value.bool false = Value.bool false /\ y_1.2.2.1 = y_1.2.2.1 /\ Value.bool false = Value.bool
  false /\ y.2.1 = y.2.1 /\ x.1 = x.1 /\ I (wrZ (q91 y_2), y_2.2.1, ()) ((z.1.1, z.1.2.1, ()), z.2.1, z.2.2.1 ++ [(y_3.1.1, y_3.1.2)], z.2.2.2.1, ()) /\ μ (wrZ (q91 y_2), y_2.2.1, ())
  ((z.1.1, z.1.2.1, ()), z.2.1, z.2.2.1 ++ [(y_3.1.1, y_3.1.2)], z.2.2.2.1, ()) < μ y_2 z)) /\ True) /\ (decide (y_2.1 < (lnZ y_1.1)) = false -> decQ x.1 z.2.2.1 q25 = true))) /\ True)) /\
  True
theorem e14 : t14 = Con.vc c_name_Decode GL (mkEnv ty [(43, conSem c_der_One), (44, conSem c_der_All), (45, conSem c_name_attr)] [] [] [0, 2, 3, 4, 5, 6, 8, 9, 11, 12, 13, 20, 40, 41, 42, 43, 44, 59]) {} Tryd.f14.ntmps Tryd.f14.results.toList (bodyOf Tryd.f14) := by kernel_rfl
theorem k14 : t14 := by
  unfold t14
  delta q4 q89 q65 q69 q81 q186 wiZ q49 q46 q25 q119 q192 q150 q55 lnZ q149 q5 q90 wyZ q152 q151 q174 wbZ q48 q64 q63 wrZ q91 q212 q233 q229 q172 q191 q232
  rintro ⟨b, _⟩ hx hp
  have hp : b.length ≤ 100000000 := hp
  have hb : Bys b := sl_bys hx.1
  try dsimp +instances only [dft_int, dft_sl, dft_str]
  simp only [true_and, and_true, eq_self_iff_true, implies_true, reduceCtorEq, false_implies, true_implies, decide_eq_true_eq, decide_eq_false_iff_not, beq_self_eq_true, Bool.not_eq_true', ne_eq, Decidable.not_not, List.nil_append, List.length_singleton, List.length_cons, List.length_nil, Nat.zero_add, Nat.add_zero, Nat.mul_one, and_self, beq_iff_eq, Bool.not_true, Bool.not_false, Bool.not_eq_false', Bool.cond_false_right, Bool.and_eq_true, imp_self, Bool.not_eq_true, Bool.cond_true_left, Bool.or_eq_true]
  simp only [edft_eq]
  have hol := oneD_len b
  refine ⟨by rw [lenB]; omega, ?_⟩
  rintro ⟨⟨t, c⟩, e, _⟩ _ e1
  simp only at e1 ⊢
  have o1 : (oneD b).1.1 = t := by rw [← e1]
  have o2 : (oneD b).1.2 = c := by rw [← e1]
  have o3 : (oneD b).2 = e := by rw [← e1]
  rw [o2] at hol
  refine ⟨by decide, fun h => decQ_iff.2 (.inl ⟨by rw [o3]; exact h, o3.symm, rfl⟩), fun h => ⟨by rw [lenB]; omega, ?_⟩⟩
  subst h
  rintro ⟨l, n, e2, _⟩ _ el
  simp only at el ⊢
  have hread : ∀ m, mayN m = true → encN m = b → t = 48 ∧ l = m.map (fun a => ((49 : Int), attrB a)) ∧ e2 = 0 := fun m hm he => by
    obtain ⟨r1, r2⟩ := dec_read hm he
    rw [o2, ← el] at r2
    simp only [Prod.mk.injEq] at r2
    exact ⟨by rw [← o1, r1], r2.1, r2.2.2⟩
  refine ⟨fun h => decQ_bad o3 fun m hm he => ?_, fun h => ?_⟩
  . obtain ⟨r1, r2, r3⟩ := hread m hm he
    have := (mayN_args hm).1
    have hl := congrArg List.length r2
    rw [List.length_map] at hl
    rcases h with (h | h) | h
    . exact h r3
    . exact h r1
    . omega
  simp only [Bool.or_eq_false_iff, decide_eq_false_iff_not, Decidable.not_not] at h
  obtain ⟨⟨k1, k2⟩, k3⟩ := h
  subst k1 k2
  have hel : ∀ x ∈ l, x.2.length ≤ 100000000 := fun x hx => by
    have := (allD_len c).2 x (by rw [← el]; exact hx)
    omega
  refine ⟨fun y z => z.2.1 = l ∧ 0 ≤ y.1 ∧ y.1 ≤ l.length ∧ (∀ a ∈ (z.2.2.1 : List AttrT), mayA a = true) ∧ l.take y.1.toNat = (z.2.2.1 : List AttrT).map (fun a => ((49 : Int), attrB a)), fun y _ => ((l.length : Int) - y.1).toNat, ⟨rfl, Int.le_refl 0, by simp only; omega, (fun a ha => by cases ha), rfl⟩, ?_⟩
  rintro ⟨i, q, _⟩ ⟨⟨t2, c2, _⟩, l2, acc, v, _⟩ _ _ ⟨z1, i0, i1, hA, hz⟩
  simp only at z1 i0 i1 hA hz ⊢
  subst z1
  have hal := congrArg List.length hz
  rw [List.length_take, List.length_map] at hal
  refine ⟨fun hlt => ?_, fun hge => ?_⟩
  . have hst := take_snocA edft l2 i.toNat (by omega)
    have hmem := mem_getD edft l2 i.toNat (by omega)
    have hgi : ∀ m, mayN m = true → encN m = b → ∃ a, mayA a = true ∧ l2.getD i.toNat edft = (49, attrB a) := fun m hm he => by
      obtain ⟨_, r2, _⟩ := hread m hm he
      rw [r2] at hmem
      obtain ⟨a, ha, e⟩ := List.mem_map.1 hmem
      exact ⟨a, (mayN_args hm).2 a ha, by rw [r2]; exact e.symm⟩
    refine ⟨⟨i0, hlt⟩, by decide, by rw [lenB]; exact hel _ hmem, ?_⟩
    rintro ⟨⟨k, v2⟩, ok, _⟩ _ hq
    simp only at hq ⊢
    have hq2 := attrQ_iff.1 hq
    refine ⟨by decide, fun h => decQ_bad o3 fun m hm he => ?_, fun h => ?_⟩
    . obtain ⟨a, ha, ex⟩ := hgi m hm he
      rcases h with h | h
      . exact hq2.2 h a ha (by rw [ex])
      . exact h (by rw [ex])
    . rw [Bool.or_eq_false_iff, Bool.not_eq_false'] at h
      obtain ⟨g1, g2⟩ := hq2.1 h.1
      have h2 := dec_not h.2
      rw [wrapK (i + 1) (by omega) (by omega)]
      refine ⟨by decide, by omega, by omega, ⟨by trivial, by omega, by omega, fun a ha => ?_, ?_⟩, by omega⟩
      . rcases List.mem_append.1 ha with ha | ha
        . exact hA a ha
        . rw [List.mem_singleton.1 ha]; exact g1
      . rw [show (i + 1).toNat = i.toNat + 1 by omega, hst, hz, List.map_append, List.map_singleton, g2, ← h2]
  . rw [List.take_of_length_le (by omega)] at hz
    refine decQ_iff.2 (.inr ⟨o3, .inl ⟨rfl, mayN_of (by omega) hA, enc_sets hb o3 o1 (n := n) ?_⟩⟩)
    rw [o2, ← el, hz]
theorem h14 : c_name_Decode.ok Tryd.prog GL 14 := con_ok (H := {}) (mkEnv_ok (gl := GL) (l := [(43, conSem c_der_One), (44, conSem c_der_All), (45, conSem c_name_attr)]) (q := []) (d := []) _ tyOk (by kernel_rfl) ⟨h43.call, h44.call, h45.call, trivial⟩ trivial trivial) (by kernel_rfl) (by kernel_rfl) (Eq.mp e14 k14)
end Go.Proofs.YtbdfeddakniaeaaDoor
end
section
namespace Go.Proofs.YtbdfeddakniaeaaDoor
open Go Go.Vc Go.Pl Go.Proofs
end Go.Proofs.YtbdfeddakniaeaaDoor
end
section
namespace Go.Proofs.YtbdfeddakniaeaaDoor
open Go Go.Vc Go.Pl Go.Proofs
set_option linter.unusedVariables false
set_option linter.unusedSimpArgs false
abbrev q153 (p0 : q5) (p1 : Unit × (Int × Unit) × Unit × (List Int × Unit) × List (Int × List Int) × List (Int × List Int) × Unit) := (cutD (List.getD (bs { data := #[(61 : UInt8)] }) q185
  q172) (List.drop (Int.toNat p0.2.1) (List.take (Int.toNat p0.1) p1.2.2.2.1.1)))
abbrev q154 := (List.getD (bs { data := #[(61 : UInt8)] }) q185 q172)
abbrev q155 (p0 : q9) := ((!p0.1) = false -> ((!p0.1) == false) = true /\ True)
abbrev q156 (p0 : q3) (p1 : List Int × Bool × Unit) := (bif !p0.2.2.1 then true else !p1.2.1)
def t15 : Prop :=
  ∀ (x : q4), (q45 x) -> List.length x.1 <= (10000000 : Nat) -> q24 <= q46 /\ q24 <= q46 /\ q24 <= q46 /\ (decide (q175 x) = true -> parN x.1 [] q25 = true) /\ (decide (q175 x) = false ->
  List.length [SV.dat Kd.str x.1] <= q46 /\ ∃ (I : Int × Int × Unit -> Unit × (Int × Unit) × Unit × (List Int × Unit) × List q81 × List q81 × Unit -> Prop), ∃ (μ : Int × Int × Unit -> Unit ×
  (Int × Unit) × Unit × (List Int × Unit) × List q81 × List q81 × Unit -> Nat), (Value.bool false = Value.bool false /\ x.1 = x.1 /\ I (q25, q25, ()) ((), (q25, ()), (), (x.1, ()), [], [],
  ())) /\ ∀ (y : q5) (z : Unit × (Int × Unit) × Unit × (List Int × Unit) × List q81 × List q81 × Unit), (q90 y) -> True /\ (wiZ z.2.1.1 /\ True) /\ True /\ (wsZ z.2.2.2.1.1 /\ True) /\ (Kd.wf
  q152 z.2.2.2.2.1 /\ Kd.wf q152 z.2.2.2.2.2.1 /\ True) -> I y z -> (decide (y.1 < (lnZ z.2.2.2.1.1)) = true -> (q25 <= y.1 /\ y.1 < (lnZ z.2.2.2.1.1)) /\ (decide (List.getD z.2.2.2.1.1
  (Int.toNat y.1) q25 = (92 : Int)) = true -> Value.bool false = Value.bool false /\ x.1 = x.1 /\ I (wrZ (wrZ (q91 y) + q47), y.2.1, ()) ((), (z.2.1.1, ()), (), (z.2.2.2.1.1, ()),
  z.2.2.2.2.1, z.2.2.2.2.2.1, ()) /\ μ (wrZ (wrZ (q91 y) + q47), y.2.1, ()) ((), (z.2.1.1, ()), (), (z.2.2.2.1.1, ()), z.2.2.2.2.1, z.2.2.2.2.2.1, ()) < μ y z) /\ (decide (List.getD
  z.2.2.2.1.1 (Int.toNat y.1) q25 = (92 : Int)) = false -> (decide (List.getD z.2.2.2.1.1 (Int.toNat y.1) q25 = (44 : Int)) = true -> (q25 <= y.2.1 /\ y.2.1 <= y.1 /\ y.1 <= (lnZ
  z.2.2.2.1.1)) /\ (List.length (List.drop (Int.toNat y.2.1) (List.take (Int.toNat y.1) z.2.2.2.1.1)) < (4294967281 : Nat) /\ List.length (bs { data := #[(61 : UInt8)] }) = q24) /\ (∀ (y_1 :
  q3), (wsZ y_1.1 /\ wsZ y_1.2.1 /\ wbZ y_1.2.2.1 /\ True) -> y_1.1 = (q153 y z).1 /\ y_1.2.1 = (q153 y z).2.1 /\ y_1.2.2.1 = (q153 y z).2.2 -> List.length y_1.2.1 <= q69 /\ (∀ (y_2 : List
  Int × Bool × Unit), (wsZ y_2.1 /\ wbZ y_2.2.1 /\ True) -> (y_2.1, y_2.2.1) = PlainD y_1.2.1 -> True /\ (∀ (y_3 : q1), (q21 y_3) -> y_3.1 = typK y_1.1 -> q49 <= q46 /\ ((!y_1.2.2.1) = false
  -> True) /\ ((!y_1.2.2.1) = false -> ((!y_1.2.2.1) == false) = true /\ True) /\ ((!y_1.2.2.1) = false -> ((!y_1.2.2.1) == false) = true) /\ ((q156 y_1 y_2) = false -> True) /\ ((q156 y_1
  y_2) = false -> ((q156 y_1 y_2) == false) = true /\ True /\ (∀ (y_4 : q9), (q57 y_4) -> y_4.1 = mayA (y_3.1, y_2.1) -> ((!y_4.1) = false -> True) /\ (q155 y_4) /\ (q155 y_4) /\ ((!y_4.1) =
  false -> ((!y_4.1) == false) = true) /\ ((bif !y_4.1 then true else decide ((lnZ z.2.2.2.2.2.1) = (16 : Int))) = true -> parN x.1 [] (120 : Int) = true) /\ ((bif !y_4.1 then true else
  decide ((lnZ z.2.2.2.2.2.1) = (16 : Int))) = false -> q48 < q49 /\ (List.length z.2.2.2.2.2.1 + List.length [(y_3.1, y_2.1)]) * (24 : Nat) <= q64 /\ List.length z.2.2.2.2.2.1 + List.length
  [(y_3.1, y_2.1)] <= q63 /\ Value.bool false = Value.bool false /\ x.1 = x.1 /\ I (wrZ (q91 y), wrZ (q91 y), ()) ((), (z.2.1.1, ()), (), (z.2.2.2.1.1, ()), z.2.2.2.2.1, z.2.2.2.2.2.1 ++
  [(y_3.1, y_2.1)], ()) /\ μ (wrZ (q91 y), wrZ (q91 y), ()) ((), (z.2.1.1, ()), (), (z.2.2.2.1.1, ()), z.2.2.2.2.1, z.2.2.2.2.2.1 ++ [(y_3.1, y_2.1)], ()) < μ y z)) /\ True) /\ ((q156 y_1
  y_2) = !false -> parN x.1 [] (120 : Int) = true)) /\ True) /\ True) /\ True) /\ (decide (List.getD z.2.2.2.1.1 (Int.toNat y.1) q25 = (44 : Int)) = false -> Value.bool false = Value.bool
  false /\ x.1 = x.1 /\ I (wrZ (q91 y), y.2.1, ()) ((), (z.2.1.1, ()), (), (z.2.2.2.1.1, ()), z.2.2.2.2.1, z.2.2.2.2.2.1, ()) /\ μ (wrZ (q91 y), y.2.1, ()) ((), (z.2.1.1, ()), (),
  (z.2.2.2.1.1, ()), z.2.2.2.2.1, z.2.2.2.2.2.1, ()) < μ y z))) /\ (decide (y.1 < (lnZ z.2.2.2.1.1)) = false -> (q25 <= y.2.1 /\ y.2.1 <= (lnZ z.2.2.2.1.1)) /\ (List.length (List.drop
  (Int.toNat y.2.1) z.2.2.2.1.1) < (4294967281 : Nat) /\ List.length (bs { data := #[(61 : UInt8)] }) = q24) /\ (∀ (y_1 : q3), (wsZ y_1.1 /\ wsZ y_1.2.1 /\ wbZ y_1.2.2.1 /\ True) -> y_1.1 =
  (cutD q154 (List.drop (Int.toNat y.2.1) z.2.2.2.1.1)).1 /\ y_1.2.1 = (cutD q154 (List.drop (Int.toNat y.2.1) z.2.2.2.1.1)).2.1 /\ y_1.2.2.1 = (cutD q154 (List.drop (Int.toNat y.2.1)
  z.2.2.2.1.1)).2.2 -> List.length y_1.2.1 <= q69 /\ (∀ (y : List Int × Bool × Unit), (wsZ y.1 /\ wbZ y.2.1 /\ True) -> (y.1, y.2.1) = PlainD y_1.2.1 -> True /\ (∀ (y_2 : q1), (q21 y_2) ->
  y_2.1 = typK y_1.1 -> q49 <= q46 /\ ((!y_1.2.2.1) = false -> True) /\ ((!y_1.2.2.1) = false -> ((!y_1.2.2.1) == false) = true /\ True) /\ ((!y_1.2.2.1) = false -> ((!y_1.2.2.1) == false) =
  true) /\ ((q156 y_1 y) = false -> True) /\ ((q156 y_1 y) = false -> ((q156 y_1 y) == false) = true /\ True /\ (∀ (y_3 : q9), (q57 y_3) -> y_3.1 = mayA (y_2.1, y.1) -> ((!y_3.1) = false ->
  True) /\ (q155 y_3) /\ (q155 y_3) /\ ((!y_3.1) = false -> ((!y_3.1) == false) = true) /\ ((bif !y_3.1 then true else decide ((lnZ z.2.2.2.2.2.1) = (16 : Int))) = true -> parN x.1 [] (120 :
  Int) = true) /\ ((bif !y_3.1 then true else decide ((lnZ z.2.2.2.2.2.1) = (16 : Int))) = false -> q48 < q49 /\ (List.length z.2.2.2.2.2.1 + List.length [(y_2.1, y.1)]) * (24 : Nat) <= q64
  /\ List.length z.2.2.2.2.2.1 + List.length [(y_2.1, y.1)] <= q63 /\ parN x.1 (z.2.2.2.2.2.1 ++ [(y_2.1, y.1)]) q25 = true)) /\ True) /\ ((q156 y_1 y) = !false -> parN x.1 [] (120 : Int) =
  true)) /\ True) /\ True) /\ True))
theorem e15 : t15 = Con.vc c_name_Parse GL (mkEnv ty [(46, i46), (47, conSem c_strings_Cut), (48, conSem c_name_plain), (49, conSem c_name_typeOf), (42, conSem c_name_may)] [(105, i105)] [] [0, 2, 3, 4, 5, 6, 7, 8, 9, 10, 11, 13, 16, 17, 48]) {} Tryd.f15.ntmps Tryd.f15.results.toList (bodyOf Tryd.f15) := by kernel_rfl
theorem k15 : t15 := by
  unfold t15
  delta q4 q45 q24 q46 q175 q25 q81 q5 q90 wiZ wsZ q152 lnZ wrZ q91 q47 q3 wbZ q153 q69 q1 q21 q49 q156 q9 q57 q155 q48 q64 q63 q154 q174 q185 q172 q212
  rintro ⟨s, _⟩ hx hp
  have hp : s.length ≤ 10000000 := hp
  try dsimp +instances only [dft_int, dft_sl, dft_str]
  simp only [true_and, and_true, eq_self_iff_true, implies_true, reduceCtorEq, false_implies, true_implies, decide_eq_true_eq, decide_eq_false_iff_not, beq_self_eq_true, Bool.not_eq_true', ne_eq, Decidable.not_not, List.nil_append, List.length_singleton, List.length_cons, List.length_nil, Nat.zero_add, Nat.add_zero, Nat.mul_one, and_self, beq_iff_eq, Bool.not_true, Bool.not_false, Bool.not_eq_false', Bool.cond_false_right, Bool.and_eq_true, imp_self, Bool.not_eq_true, Bool.cond_true_left, Bool.or_eq_true]
  rw [show bs { data := #[61] } = [61] by decide, bs_nil]
  refine ⟨by decide, by decide, by decide, fun h => by rw [h]; exact parN_iff.2 (.inl ⟨rfl, rfl, rfl⟩), fun hs => ⟨by decide, ?_⟩⟩
  refine ⟨fun y z => z.2.2.2.1.1 = s ∧ 0 ≤ y.1 ∧ y.1 ≤ s.length + 1 ∧ 0 ≤ y.2.1 ∧ y.2.1 ≤ y.1 ∧ y.2.1 ≤ s.length ∧ (z.2.2.2.2.2.1 : List AttrT).length ≤ 16 ∧ (∀ a ∈ (z.2.2.2.2.2.1 : List AttrT), mayA a = true) ∧ partsE s = (z.2.2.2.2.2.1 : List AttrT).map attrT ++ pcs s y.2.1.toNat y.1.toNat, fun y _ => ((s.length : Int) + 1 - y.1).toNat, ⟨rfl, Int.le_refl 0, by simp only; omega, Int.le_refl 0, Int.le_refl 0, by simp only; omega, by simp, (fun a ha => by cases ha), rfl⟩, ?_⟩
  rintro ⟨i, f, _⟩ ⟨_, ⟨q, _⟩, _, ⟨sv, _⟩, o, acc, _⟩ _ _ ⟨e1, i0, i1, f0, f1, f2, h16, hA, e⟩
  simp only at e1 i0 i1 f0 f1 f2 h16 hA e ⊢
  subst e1
  rw [show ([61] : List Int).getD 0 0 = 61 from rfl]
  refine ⟨fun hlt => ⟨⟨i0, hlt⟩, fun hc => ?_, fun hc => ⟨fun h4 => ⟨⟨f0, f1, by omega⟩, ⟨by have := piece_len (s := sv) (f := f.toNat) (i := i.toNat); omega, rfl⟩, ?_⟩, fun h4 => ?_⟩⟩, fun hge => ⟨⟨f0, f2⟩, ⟨by rw [List.length_drop]; omega, rfl⟩, ?_⟩⟩
  . rw [wrapK (i + 1) (by omega) (by omega), wrapK (i + 1 + 1) (by omega) (by omega)]
    refine ⟨⟨rfl, by omega, by omega, f0, by omega, f2, h16, hA, ?_⟩, by omega⟩
    rw [e, pcs_two (by omega) (by omega) hc, show i.toNat + 2 = (i + 1 + 1).toNat by omega]
  . have hlen := piece_len (s := sv) (f := f.toNat) (i := i.toNat)
    rw [pcs_comma (by omega) h4, show i.toNat + 1 = (i + 1).toNat by omega] at e
    generalize (sv.take i.toNat).drop f.toNat = p at e hlen
    have hn : noC p = true := parts_noC (s := sv) (by rw [e]; simp)
    have hcl := cut_len p
    rintro ⟨w, r, g, _⟩ _ ⟨ew, er, eg⟩
    simp only at ew er eg ⊢
    refine ⟨by rw [er]; omega, ?_⟩
    rintro ⟨v, ok, _⟩ _ ev
    rintro ⟨k, _⟩ _ ek
    simp only at ev ek ⊢
    subst ew er eg ek
    have ev1 : v = (PlainD (cutD 61 p).2.1).1 := (congrArg Prod.fst ev)
    have ev2 : ok = (PlainD (cutD 61 p).2.1).2 := (congrArg Prod.snd ev)
    subst ev1 ev2
    refine ⟨by decide, fun hh => ⟨hh, ?_⟩, fun hh => piece_bad hs e (.inl (pA_none (hh.imp id .inl)))⟩
    simp only [Bool.or_eq_false_iff, Bool.not_eq_false'] at hh
    rintro ⟨b, _⟩ _ eb
    simp only at eb ⊢
    subst eb
    refine ⟨fun hh2 => piece_bad hs e (hh2.imp (fun h => pA_none (.inr (.inr h))) (by omega)), fun hh2 => ?_⟩
    simp only [Bool.or_eq_false_iff, Bool.not_eq_false', decide_eq_false_iff_not] at hh2
    obtain ⟨k1, k2⟩ := attr_pA hn (pA_some hh.1 hh.2 hh2.1)
    rw [wrapK (i + 1) (by omega) (by omega)]
    refine ⟨by decide, by omega, by omega, ⟨by trivial, by omega, by omega, by omega, by omega, by omega, by rw [List.length_append, List.length_singleton]; omega, fun a ha => ?_, ?_⟩, by omega⟩
    . rcases List.mem_append.1 ha with ha | ha
      . exact hA a ha
      . rw [List.mem_singleton.1 ha]; exact k2
    . rw [e, List.map_append, List.map_singleton, k1]; simp
  . rw [wrapK (i + 1) (by omega) (by omega)]
    refine ⟨⟨rfl, by omega, by omega, f0, by omega, f2, h16, hA, ?_⟩, by omega⟩
    rw [e, pcs_one (by omega) (by omega) h4 hc, show i.toNat + 1 = (i + 1).toNat by omega]
  . have hlen : (sv.drop f.toNat).length ≤ sv.length := by rw [List.length_drop]; omega
    rw [pcs_end (by omega)] at e
    generalize sv.drop f.toNat = p at e hlen
    have hn : noC p = true := parts_noC (s := sv) (by rw [e]; simp)
    have hcl := cut_len p
    rintro ⟨w, r, g, _⟩ _ ⟨ew, er, eg⟩
    simp only at ew er eg ⊢
    refine ⟨by rw [er]; omega, ?_⟩
    rintro ⟨v, ok, _⟩ _ ev
    rintro ⟨k, _⟩ _ ek
    simp only at ev ek ⊢
    subst ew er eg ek
    have ev1 : v = (PlainD (cutD 61 p).2.1).1 := (congrArg Prod.fst ev)
    have ev2 : ok = (PlainD (cutD 61 p).2.1).2 := (congrArg Prod.snd ev)
    subst ev1 ev2
    refine ⟨by decide, fun hh => ⟨hh, ?_⟩, fun hh => piece_bad hs e (.inl (pA_none (hh.imp id .inl)))⟩
    simp only [Bool.or_eq_false_iff, Bool.not_eq_false'] at hh
    rintro ⟨b, _⟩ _ eb
    simp only at eb ⊢
    subst eb
    refine ⟨fun hh2 => piece_bad hs e (hh2.imp (fun h => pA_none (.inr (.inr h))) (by omega)), fun hh2 => ?_⟩
    simp only [Bool.or_eq_false_iff, Bool.not_eq_false', decide_eq_false_iff_not] at hh2
    obtain ⟨k1, k2⟩ := attr_pA hn (pA_some hh.1 hh.2 hh2.1)
    refine ⟨by decide, by omega, by omega, read_ok hs (by rw [List.length_append, List.length_singleton]; omega) ?_ fun a ha => ?_⟩
    . rw [e, List.map_append, List.map_singleton, k1]
    . rcases List.mem_append.1 ha with ha | ha
      . exact hA a ha
      . rw [List.mem_singleton.1 ha]; exact k2
theorem h15 : c_name_Parse.ok Tryd.prog GL 15 := con_ok (H := {}) (mkEnv_ok (gl := GL) (l := [(46, i46), (47, conSem c_strings_Cut), (48, conSem c_name_plain), (49, conSem c_name_typeOf), (42, conSem c_name_may)]) (q := [(105, i105)]) (d := []) _ tyOk (by kernel_rfl) ⟨i46_ok, h47.call, h48.call, h49.call, h42.call, trivial⟩ ⟨i105_ok, trivial⟩ trivial) (by kernel_rfl) (by kernel_rfl) (Eq.mp e15 k15)
end Go.Proofs.YtbdfeddakniaeaaDoor
end
