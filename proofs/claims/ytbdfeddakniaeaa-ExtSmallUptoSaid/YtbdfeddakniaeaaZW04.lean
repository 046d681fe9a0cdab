/- Texts of a verified walk, led together: Ext1A, Ext1W, Law15sA, Law15sW. -/
import Derived.Test.YtbdfeddakniaeaaZW03
import Derived.Test.YtbdfeddakniaeaaZV08
set_option linter.unusedVariables false
set_option linter.unusedSimpArgs false
section
namespace Go.Proofs.Ytbdfeddakniaeaa
open Go Go.Vc Go.Pl Go.Proofs
def c_ext_wrap : Con := { args := [.dat I64, .dat (.sl BY)], res := [.own 5 U8], pre := fun x => isTagD x.1 = true ∧ lenF x.2.1 ≤ 16777215, post := fun x y => y.1 = putB (x.1, x.2.1.flatten) }
def c_ext_Basic : Con := { args := [.dat (.pair .bool I64)], res := [.own 5 U8, .dat I64], pre := fun _ => True, post := fun x y => (y.1, y.2.1) = BasicD x.1 }
def c_ext_Usage : Con := { args := [.dat (.int .u16)], res := [.own 5 U8, .dat I64], pre := fun _ => True, post := fun x y => (y.1, y.2.1) = UsageD x.1 }
def c_ext_Number : Con := { args := [.dat I64], res := [.own 5 U8, .dat I64], pre := fun _ => True, post := fun x y => (y.1, y.2.1) = NumberD x.1 }
def c_ext_reason : Con := { args := [.dat I64], res := [.dat .bool], pre := fun _ => True, post := fun x y => y.1 = reasonK x.1 }
def c_ext_Reason : Con := { args := [.dat I64], res := [.own 5 U8, .dat I64], pre := fun _ => True, post := fun x y => (y.1, y.2.1) = ReasonD x.1 }
def c_ext_Subject : Con := { args := [.dat (.arr 20 U8)], res := [.own 5 U8], pre := fun _ => True, post := fun x y => y.1 = SubjectD x.1 }
def c_ext_Issuer : Con := { args := [.dat (.arr 20 U8)], res := [.own 5 U8], pre := fun _ => True, post := fun x y => y.1 = IssuerD x.1 }
def c_r15_Put : Con := { args := [.dat I64, .dat BY], res := [.own 5 U8], pre := fun x => 0 ≤ x.1 ∧ x.1 ≤ 255 ∧ lenB x.2.1 ≤ 16777215, post := fun x y => y.1 = putB (x.1, x.2.1) }
def c_r15_Basic : Con := { args := [.dat (.pair .bool I64)], res := [.own 5 U8, .dat I64], pre := fun _ => True, post := fun x y => (y.1, y.2.1) = BasicD x.1 }
def c_r15_Usage : Con := { args := [.dat (.int .u16)], res := [.own 5 U8, .dat I64], pre := fun _ => True, post := fun x y => (y.1, y.2.1) = UsageD x.1 }
def c_r15_Number : Con := { args := [.dat I64], res := [.own 5 U8, .dat I64], pre := fun _ => True, post := fun x y => (y.1, y.2.1) = NumberD x.1 }
def c_r15_Reason : Con := { args := [.dat I64], res := [.own 5 U8, .dat I64], pre := fun _ => True, post := fun x y => (y.1, y.2.1) = ReasonD x.1 }
def c_r15_Subject : Con := { args := [.dat (.arr 20 U8)], res := [.own 5 U8], pre := fun _ => True, post := fun x y => y.1 = SubjectD x.1 }
def c_r15_Issuer : Con := { args := [.dat (.arr 20 U8)], res := [.own 5 U8], pre := fun _ => True, post := fun x y => y.1 = IssuerD x.1 }
end Go.Proofs.Ytbdfeddakniaeaa
end
section
namespace Go.Proofs.Ytbdfeddakniaeaa
open Go Go.Vc Go.Pl Go.Proofs
set_option linter.unusedVariables false
set_option linter.unusedSimpArgs false
theorem basic_ok {c : Bool} {n : Int} (h : ¬ (n < -1 ∨ 100 < n)) (hc : ¬ (c = false ∧ n ≠ -1)) : BasicD (c, n) = (putB (48, caB c ++ pathB n), 0) := by
  rw [BasicD, if_neg]
  rintro (h' | h' | h')
  . exact h (.inl h')
  . exact h (.inr h')
  . exact hc h'
theorem basic_no {c : Bool} {n : Int} (h : (n < -1 ∨ 100 < n) ∨ (c = false ∧ n ≠ -1)) : BasicD (c, n) = ([], 150) := by
  rw [BasicD, if_pos]
  rcases h with (h | h) | h
  . exact .inl h
  . exact .inr (.inl h)
  . exact .inr (.inr h)
theorem take20 {n : List Int} (h : n.length = 20) : List.take 20 (List.drop 0 n) = n := by rw [List.drop_zero, List.take_of_length_le (by omega)]
abbrev q5 := (List Int × Int × Unit)
abbrev q51 (p0 : q5) := (wyZ p0.1 /\ wiZ p0.2.1 /\ True)
abbrev q140 (p0 : (Bool × Int) × Unit) := (bif decide (p0.1.2 < q142) then true else decide ((100 : Int) < p0.1.2))
abbrev q122 (p0 : (Bool × Int) × Unit) := ((q140 p0) == false && (q140 p0) == false)
abbrev q110 (p0 : (Bool × Int) × Unit) := ((q140 p0) == false && (q140 p0) == false && (!p0.1.1) == true)
abbrev q52 (p0 : (Bool × Int) × Unit) := ((q122 p0) = true -> (!p0.1.1) = true -> (q110 p0) = true /\ True)
abbrev q111 (p0 : (Bool × Int) × Unit) := (bif decide (p0.1.2 < q142) then true else decide ((100 : Int) < p0.1.2))
abbrev q53 (p0 : (Bool × Int) × Unit) := ((q111 p0) = false -> ((q111 p0) == false) = true /\ True)
abbrev q54 (p0 : (Bool × Int) × Unit) := ((q111 p0) = false -> ((q111 p0) == false) = true)
abbrev q55 (p0 : (Bool × Int) × Unit) := ((q111 p0) == false && (q111 p0) == false)
abbrev q56 (p0 : (Bool × Int) × Unit) := (bif bif decide (p0.1.2 < q142) then true else decide ((100 : Int) < p0.1.2) then true else bif !p0.1.1 then decide (p0.1.2 ≠ q142) else false)
abbrev q57 (p0 : (Bool × Int) × Unit) := ((q111 p0) = false -> True)
abbrev q58 (p0 : (Bool × Int) × Unit) := (decide (p0.1.2 < q142) = false -> (decide (p0.1.2 < q142) == false) = true /\ True)
abbrev q59 := (Kd.pair Kd.bool (Kd.int IntKind.i64))
abbrev q60 := (48 : Int)
abbrev q61 (p0 : q0) := (bif decide (q103 p0) then decide (p0.1 <= (10 : Int)) else false)
abbrev q112 := (20 : Nat)
abbrev q62 (p0 : q1) := (Kd.wf (Kd.arr q112 q130) p0.1 /\ True)
abbrev q63 (p0 : q1) := (List.getD p0.1 (nat_lit 10) q117)
abbrev q64 (p0 : q1) := (List.getD p0.1 (nat_lit 11) q117)
abbrev q65 (p0 : q1) := (List.getD p0.1 (nat_lit 12) q117)
abbrev q66 (p0 : q1) := (List.getD p0.1 (nat_lit 13) q117)
abbrev q67 (p0 : q1) := (List.getD p0.1 (nat_lit 14) q117)
abbrev q68 (p0 : q1) := (List.getD p0.1 (nat_lit 15) q117)
abbrev q69 (p0 : q1) := (List.getD p0.1 (nat_lit 16) q117)
abbrev q70 (p0 : q1) := (List.getD p0.1 (nat_lit 17) q117)
abbrev q71 (p0 : q1) := (List.getD p0.1 (nat_lit 18) q117)
abbrev q72 (p0 : q1) := (List.getD p0.1 (nat_lit 19) q117)
abbrev q73 (p0 : q1) := (List.getD p0.1 (nat_lit 0) q117)
abbrev q74 (p0 : q1) := (List.getD p0.1 (nat_lit 1) q117)
abbrev q75 (p0 : q1) := (List.getD p0.1 (nat_lit 2) q117)
abbrev q76 (p0 : q1) := (List.getD p0.1 (nat_lit 3) q117)
abbrev q77 (p0 : q1) := (List.getD p0.1 (nat_lit 4) q117)
abbrev q78 (p0 : q1) := (List.getD p0.1 (nat_lit 5) q117)
abbrev q79 (p0 : q1) := (List.getD p0.1 (nat_lit 6) q117)
abbrev q80 (p0 : q1) := (List.getD p0.1 (nat_lit 7) q117)
abbrev q81 (p0 : q1) := (List.getD p0.1 (nat_lit 8) q117)
abbrev q82 (p0 : q1) := (List.getD p0.1 (nat_lit 9) q117)
abbrev q83 := (Kd.int IntKind.u8)
abbrev q113 (p0 : (Bool × Int) × Unit) := ((q140 p0) == false && (q140 p0) == false && decide (p0.1.2 ≠ q142) == true)
abbrev q84 (p0 : (Bool × Int) × Unit) := ((q122 p0) = true -> decide (p0.1.2 ≠ q142) = true -> (q113 p0) = true /\ True)
abbrev q85 (p0 : (Bool × Int) × Unit) := (bif bif decide (p0.1.2 < q142) then true else decide ((100 : Int) < p0.1.2) then true else bif decide (p0.1.2 ≠ q142) then !p0.1.1 else false)
abbrev q86 (p0 : q1) := ((0 : Int) <= q104 /\ q104 <= (255 : Int) /\ lenB p0.1 <= (16777215 : Nat))
abbrev q87 (p0 : q0) := (bif bif decide (p0.1 < (0 : Int)) then true else decide ((10 : Int) < p0.1) then true else decide (p0.1 = (7 : Int)))
abbrev q88 (p0 : q0) := (bif decide (p0.1 < (0 : Int)) then true else decide ((10 : Int) < p0.1))
def t47 : Prop :=
  ∀ (x : Int × List (List Int) × Unit), (wiZ x.1 /\ Kd.wf (Kd.sl q23) x.2.1 /\ True) -> isTagD x.1 = true /\ lenF x.2.1 <= q26 -> lenB [] <= (900000000 : Nat) /\ (∀ (y : q5), (q51 y) -> (y.1,
  y.2.1) = PutD [] x.1 (List.flatten x.2.1) -> y.1 = putB (x.1, List.flatten x.2.1)) /\ True
theorem e47 : t47 = Con.vc c_ext_wrap GL (mkEnv ty [(101, conSem c_der_Put)] [] [] [0, 1, 4, 5]) {} Try.f47.ntmps Try.f47.results.toList (bodyOf Try.f47) := by kernel_rfl
theorem k47 : t47 := by
  unfold t47
  delta wiZ q23 q26 q5 q51 q130 wyZ
  rintro ⟨t, cs, _⟩ hx hp
  obtain ⟨h1, h2⟩ := hp
  simp only [lenF] at h1 h2
  try dsimp +instances only [dft_int, dft_sl, dft_str]
  simp only [true_and, and_true, eq_self_iff_true, implies_true, reduceCtorEq, false_implies, true_implies, decide_eq_true_eq, decide_eq_false_iff_not, beq_self_eq_true, Bool.not_eq_true', ne_eq, Decidable.not_not, List.nil_append, List.length_singleton, List.length_cons, List.length_nil, Nat.zero_add, Nat.add_zero, Nat.mul_one, and_self, beq_iff_eq, Bool.not_true, Bool.not_false, Bool.not_eq_false', Bool.cond_false_right, Bool.and_eq_true, imp_self, Bool.not_eq_true, Bool.cond_true_left, Bool.or_eq_true]
  refine ⟨by simp [lenB], ?_⟩
  rintro ⟨y, e, _⟩ _ h
  simp only at h ⊢
  rw [put_nil t _ h1 h2] at h
  exact (Prod.mk.inj h).1
theorem h47 : c_ext_wrap.ok Try.prog GL 47 := con_ok (H := {}) (mkEnv_ok (gl := GL) (l := [(101, conSem c_der_Put)]) (q := []) (d := []) _ tyOk (by kernel_rfl) ⟨h101.call, trivial⟩ trivial trivial) (by kernel_rfl) (by kernel_rfl) (Eq.mp e47 k47)
def t8 : Prop :=
  ∀ (x : (Bool × Int) × Unit), (Kd.wf q59 x.1 /\ True) -> True -> List.length [SV.dat Kd.bool x.1.1, SV.dat q25 x.1.2] <= (65536 : Nat) /\ (decide (x.1.2 < q142) = false -> True) /\ (q58 x)
  /\ (q58 x) /\ (decide (x.1.2 < q142) = false -> (decide (x.1.2 < q142) == false) = true) /\ (q57 x) /\ (q53 x) /\ (q53 x) /\ (q57 x) /\ ((q55 x) = true -> (!x.1.1) = true -> True) /\ (q52
  x) /\ (q52 x) /\ ((q111 x) = false -> (q55 x) = true /\ ((!x.1.1) = true -> (q110 x) = true) /\ True) /\ (q54 x) /\ ((q56 x) = true -> ([], (150 : Int)) = BasicD x.1) /\ ((q56 x) = false ->
  (x.1.1 = true -> True /\ (∀ (y : q1), (q16 y) -> y.1 = BoolD true -> (isTagD q105 = true /\ lenF [y.1] <= q26) /\ (∀ (y_1 : q1), (q16 y_1) -> y_1.1 = putB (q105, List.flatten [y.1]) ->
  (decide (q11 <= x.1.2) = true -> True /\ (∀ (y : q1), (q16 y) -> y.1 = IntD x.1.2 -> (isTagD q104 = true /\ lenF [y.1] <= q26) /\ (∀ (y_2 : q1), (q16 y_2) -> y_2.1 = putB (q104,
  List.flatten [y.1]) -> (isTagD q60 = true /\ lenF [y_1.1, y_2.1] <= q26) /\ (∀ (y : q1), (q16 y) -> y.1 = putB (q60, List.flatten [y_1.1, y_2.1]) -> (y.1, q11) = BasicD x.1) /\ True) /\
  True) /\ True) /\ (decide (q11 <= x.1.2) = false -> (isTagD q60 = true /\ lenF [y_1.1, []] <= q26) /\ (∀ (y : q1), (q16 y) -> y.1 = putB (q60, List.flatten [y_1.1, []]) -> (y.1, q11) =
  BasicD x.1) /\ True)) /\ True) /\ True) /\ (x.1.1 = false -> (decide (q11 <= x.1.2) = true -> True /\ (∀ (y : q1), (q16 y) -> y.1 = IntD x.1.2 -> (isTagD q104 = true /\ lenF [y.1] <= q26)
  /\ (∀ (y_1 : q1), (q16 y_1) -> y_1.1 = putB (q104, List.flatten [y.1]) -> (isTagD q60 = true /\ lenF [[], y_1.1] <= q26) /\ (∀ (y : q1), (q16 y) -> y.1 = putB (q60, List.flatten [[],
  y_1.1]) -> (y.1, q11) = BasicD x.1) /\ True) /\ True) /\ True) /\ (decide (q11 <= x.1.2) = false -> (isTagD q60 = true /\ q17 <= q26) /\ (∀ (y : q1), (q16 y) -> y.1 = putB (q60,
  List.flatten [[], []]) -> (y.1, q11) = BasicD x.1) /\ True)))
theorem e8 : t8 = Con.vc c_ext_Basic GL (mkEnv ty [(48, conSem c_num_Bool), (49, conSem c_num_Int), (47, conSem c_ext_wrap)] [] [] [0, 1, 2, 3, 4, 5, 23, 25, 31]) {} Try.f8.ntmps Try.f8.results.toList (bodyOf Try.f8) := by kernel_rfl
theorem k8 : t8 := by
  unfold t8
  delta q59 q25 q142 q58 q57 q53 q55 q52 q111 q110 q54 q56 q1 q16 q105 q26 q11 q104 q60 q17 q122 q140 wyZ
  rintro ⟨⟨c, n⟩, _⟩ hx hp
  try dsimp +instances only [dft_int, dft_sl, dft_str]
  simp only [true_and, and_true, eq_self_iff_true, implies_true, reduceCtorEq, false_implies, true_implies, decide_eq_true_eq, decide_eq_false_iff_not, beq_self_eq_true, Bool.not_eq_true', ne_eq, Decidable.not_not, List.nil_append, List.length_singleton, List.length_cons, List.length_nil, Nat.zero_add, Nat.add_zero, Nat.mul_one, and_self, beq_iff_eq, Bool.not_true, Bool.not_false, Bool.not_eq_false', Bool.cond_false_right, Bool.and_eq_true, imp_self, Bool.not_eq_true, Bool.cond_true_left, Bool.or_eq_true]
  have hi := int_len n
  refine ⟨by decide, fun a b => ⟨a, b⟩, fun a b => ⟨a, b⟩, fun a => ⟨a, fun b => ⟨a, b⟩⟩, fun h => (basic_no h).symm, fun h => ?_⟩
  have h1 : ¬ (n < -1 ∨ 100 < n) ∧ ¬ (c = false ∧ n ≠ -1) := by cases c <;> simp at h ⊢ <;> omega
  have hm := basic_ok h1.1 h1.2
  have hcl := ca_len c
  have hpl := path_len n
  rw [hm]
  refine ⟨fun hc => ?_, fun hc => ?_⟩
  . rintro ⟨v, _⟩ _ ev
    simp only at ev ⊢
    refine ⟨⟨by decide, by rw [ev]; simp [lenF, BoolD]⟩, ?_⟩
    rintro ⟨w, _⟩ _ ew
    simp only at ew ⊢
    have hca : w = caB c := by rw [ew, ev, hc]; rfl
    refine ⟨fun h0 => ?_, fun h0 => ?_⟩
    . rintro ⟨u, _⟩ _ eu
      simp only at eu ⊢
      refine ⟨⟨by decide, by rw [eu]; simp only [lenF, List.flatten_cons, List.flatten_nil, List.append_nil]; omega⟩, ?_⟩
      rintro ⟨q, _⟩ _ eq
      simp only at eq ⊢
      have hpa : q = pathB n := by rw [eq, eu, pathB, if_neg (by omega)]; simp
      refine ⟨⟨by decide, by rw [hca, hpa]; simp [lenF]; omega⟩, ?_⟩
      rintro ⟨z, _⟩ _ ez
      simp only at ez ⊢
      rw [ez, hca, hpa]; simp
    . have hpa : pathB n = [] := by rw [pathB, if_pos (by omega)]
      refine ⟨⟨by decide, by rw [hca]; simp [lenF]; omega⟩, ?_⟩
      rintro ⟨z, _⟩ _ ez
      simp only at ez ⊢
      rw [ez, hca, hpa]; simp
  . have hn : n = -1 := by
      by_cases e : n = -1
      . exact e
      . exact absurd ⟨hc, e⟩ h1.2
    refine ⟨fun h0 => by omega, fun h0 => ⟨⟨by decide, by decide⟩, ?_⟩⟩
    rintro ⟨z, _⟩ _ ez
    simp only at ez ⊢
    rw [ez, pathB, if_pos hn, hc]; rfl
theorem h8 : c_ext_Basic.ok Try.prog GL 8 := con_ok (H := {}) (mkEnv_ok (gl := GL) (l := [(48, conSem c_num_Bool), (49, conSem c_num_Int), (47, conSem c_ext_wrap)]) (q := []) (d := []) _ tyOk (by kernel_rfl) ⟨h48.call, h49.call, h47.call, trivial⟩ trivial trivial) (by kernel_rfl) (by kernel_rfl) (Eq.mp e8 k8)
def t11 : Prop :=
  ∀ (x : q0), (q43 x) -> True -> (decide (x.1 = q11) = false -> True) /\ (decide (x.1 = q11) = false -> (decide (x.1 = q11) == false) = true /\ True) /\ (decide (x.1 = q11) = false -> (decide
  (x.1 = q11) == false) = true) /\ ((bif decide (x.1 = q11) then true else decide ((512 : Int) <= x.1)) = true -> ([], (150 : Int)) = UsageD x.1) /\ ((bif decide (x.1 = q11) then true else
  decide ((512 : Int) <= x.1)) = false -> True /\ (∀ (y : q1), (q16 y) -> y.1 = FlagsD (q108 x) -> (isTagD (3 : Int) = true /\ lenF [y.1] <= q26) /\ (∀ (y_1 : q1), (q16 y_1) -> y_1.1 = putB
  ((3 : Int), List.flatten [y.1]) -> (y_1.1, q11) = UsageD x.1) /\ True) /\ True)
theorem e11 : t11 = Con.vc c_ext_Usage GL (mkEnv ty [(54, conSem c_num_Flags), (47, conSem c_ext_wrap)] [] [] [0, 2, 3, 9]) {} Try.f11.ntmps Try.f11.results.toList (bodyOf Try.f11) := by kernel_rfl
theorem k11 : t11 := by
  unfold t11
  delta q0 q43 q11 q1 q16 q108 q26 wyZ
  rintro ⟨n, _⟩ hx hp
  try dsimp +instances only [dft_int, dft_sl, dft_str]
  simp only [true_and, and_true, eq_self_iff_true, implies_true, reduceCtorEq, false_implies, true_implies, decide_eq_true_eq, decide_eq_false_iff_not, beq_self_eq_true, Bool.not_eq_true', ne_eq, Decidable.not_not, List.nil_append, List.length_singleton, List.length_cons, List.length_nil, Nat.zero_add, Nat.add_zero, Nat.mul_one, and_self, beq_iff_eq, Bool.not_true, Bool.not_false, Bool.not_eq_false', Bool.cond_false_right, Bool.and_eq_true, imp_self, Bool.not_eq_true, Bool.cond_true_left, Bool.or_eq_true]
  have hl := flags_len n.toNat
  refine ⟨fun h => by rw [UsageD, if_pos (by omega)], fun h => ?_⟩
  have h1 : ¬ (n = 0 ∨ 511 < n) := by simp at h; omega
  rintro ⟨u, _⟩ _ eu
  simp only at eu ⊢
  refine ⟨⟨by decide, by rw [eu]; simp [lenF]; omega⟩, ?_⟩
  rintro ⟨z, _⟩ _ ez
  simp only at ez ⊢
  rw [ez, eu, UsageD, if_neg h1]; simp
theorem h11 : c_ext_Usage.ok Try.prog GL 11 := con_ok (H := {}) (mkEnv_ok (gl := GL) (l := [(54, conSem c_num_Flags), (47, conSem c_ext_wrap)]) (q := []) (d := []) _ tyOk (by kernel_rfl) ⟨h54.call, h47.call, trivial⟩ trivial trivial) (by kernel_rfl) (by kernel_rfl) (Eq.mp e11 k11)
def t13 : Prop :=
  ∀ (x : q0), (wiZ x.1 /\ True) -> True -> (decide (x.1 < q11) = true -> ([], (150 : Int)) = NumberD x.1) /\ (decide (x.1 < q11) = false -> True /\ (∀ (y : q1), (q16 y) -> y.1 = IntD x.1 ->
  (isTagD q104 = true /\ lenF [y.1] <= q26) /\ (∀ (y_1 : q1), (q16 y_1) -> y_1.1 = putB (q104, List.flatten [y.1]) -> (y_1.1, q11) = NumberD x.1) /\ True) /\ True)
theorem e13 : t13 = Con.vc c_ext_Number GL (mkEnv ty [(49, conSem c_num_Int), (47, conSem c_ext_wrap)] [] [] [0, 2, 3, 5]) {} Try.f13.ntmps Try.f13.results.toList (bodyOf Try.f13) := by kernel_rfl
theorem k13 : t13 := by
  unfold t13
  delta q0 wiZ q11 q1 q16 q104 q26 wyZ
  rintro ⟨n, _⟩ hx hp
  try dsimp +instances only [dft_int, dft_sl, dft_str]
  simp only [true_and, and_true, eq_self_iff_true, implies_true, reduceCtorEq, false_implies, true_implies, decide_eq_true_eq, decide_eq_false_iff_not, beq_self_eq_true, Bool.not_eq_true', ne_eq, Decidable.not_not, List.nil_append, List.length_singleton, List.length_cons, List.length_nil, Nat.zero_add, Nat.add_zero, Nat.mul_one, and_self, beq_iff_eq, Bool.not_true, Bool.not_false, Bool.not_eq_false', Bool.cond_false_right, Bool.and_eq_true, imp_self, Bool.not_eq_true, Bool.cond_true_left, Bool.or_eq_true]
  have hl := int_len n
  refine ⟨fun h => by rw [NumberD, if_pos h], fun h => ?_⟩
  rintro ⟨u, _⟩ _ eu
  simp only at eu ⊢
  refine ⟨⟨by decide, by rw [eu]; simp [lenF]; omega⟩, ?_⟩
  rintro ⟨z, _⟩ _ ez
  simp only at ez ⊢
  rw [ez, eu, NumberD, if_neg h]; simp
theorem h13 : c_ext_Number.ok Try.prog GL 13 := con_ok (H := {}) (mkEnv_ok (gl := GL) (l := [(49, conSem c_num_Int), (47, conSem c_ext_wrap)]) (q := []) (d := []) _ tyOk (by kernel_rfl) ⟨h49.call, h47.call, trivial⟩ trivial trivial) (by kernel_rfl) (by kernel_rfl) (Eq.mp e13 k13)
def t56 : Prop :=
  ∀ (x : q0), (wiZ x.1 /\ True) -> True -> (decide (q103 x) = true -> True) /\ (decide (q103 x) = true -> (decide (q103 x) == true) = true /\ True) /\ (decide (q103 x) = true -> (decide (q103
  x) == true) = true) /\ ((q61 x) = true -> True) /\ ((q61 x) = true -> ((q61 x) == true) = true /\ True) /\ ((q61 x) = true -> ((q61 x) == true) = true) /\ (bif bif decide (q103 x) then
  decide (x.1 <= (10 : Int)) else false then decide (x.1 ≠ (7 : Int)) else false) = reasonK x.1
theorem e56 : t56 = Con.vc c_ext_reason GL (mkEnv ty [] [] [] [0, 2]) {} Try.f56.ntmps Try.f56.results.toList (bodyOf Try.f56) := by kernel_rfl
theorem k56 : t56 := by
  unfold t56
  delta q0 wiZ q103 q61
  rintro ⟨n, _⟩ hx hp
  try dsimp +instances only [dft_int, dft_sl, dft_str]
  simp only [true_and, and_true, eq_self_iff_true, implies_true, reduceCtorEq, false_implies, true_implies, decide_eq_true_eq, decide_eq_false_iff_not, beq_self_eq_true, Bool.not_eq_true', ne_eq, Decidable.not_not, List.nil_append, List.length_singleton, List.length_cons, List.length_nil, Nat.zero_add, Nat.add_zero, Nat.mul_one, and_self, beq_iff_eq, Bool.not_true, Bool.not_false, Bool.not_eq_false', Bool.cond_false_right, Bool.and_eq_true, imp_self, Bool.not_eq_true, Bool.cond_true_left, Bool.or_eq_true]
  rw [reasonK, Bool.and_assoc]
theorem h56 : c_ext_reason.ok Try.prog GL 56 := con_ok (H := {}) (mkEnv_ok (gl := GL) (l := []) (q := []) (d := []) _ tyOk (by kernel_rfl) trivial trivial trivial) (by kernel_rfl) (by kernel_rfl) (Eq.mp e56 k56)
def t15 : Prop :=
  ∀ (x : q0), (wiZ x.1 /\ True) -> True -> True /\ (∀ (y : q4), (wbZ y.1 /\ True) -> y.1 = reasonK x.1 -> ((!y.1) = true -> ([], (150 : Int)) = ReasonD x.1) /\ ((!y.1) = false -> True /\ (∀
  (y : q1), (q16 y) -> y.1 = IntD x.1 -> (isTagD (10 : Int) = true /\ lenF [y.1] <= q26) /\ (∀ (y_1 : q1), (q16 y_1) -> y_1.1 = putB ((10 : Int), List.flatten [y.1]) -> (y_1.1, q11) = ReasonD
  x.1) /\ True) /\ True)) /\ True
theorem e15 : t15 = Con.vc c_ext_Reason GL (mkEnv ty [(56, conSem c_ext_reason), (49, conSem c_num_Int), (47, conSem c_ext_wrap)] [] [] [0, 2, 3, 6]) {} Try.f15.ntmps Try.f15.results.toList (bodyOf Try.f15) := by kernel_rfl
theorem k15 : t15 := by
  unfold t15
  delta q0 wiZ q4 wbZ q1 q16 q26 q11 wyZ
  rintro ⟨n, _⟩ hx hp
  try dsimp +instances only [dft_int, dft_sl, dft_str]
  simp only [true_and, and_true, eq_self_iff_true, implies_true, reduceCtorEq, false_implies, true_implies, decide_eq_true_eq, decide_eq_false_iff_not, beq_self_eq_true, Bool.not_eq_true', ne_eq, Decidable.not_not, List.nil_append, List.length_singleton, List.length_cons, List.length_nil, Nat.zero_add, Nat.add_zero, Nat.mul_one, and_self, beq_iff_eq, Bool.not_true, Bool.not_false, Bool.not_eq_false', Bool.cond_false_right, Bool.and_eq_true, imp_self, Bool.not_eq_true, Bool.cond_true_left, Bool.or_eq_true]
  have hl := int_len n
  rintro ⟨k, _⟩ _ ek
  simp only at ek ⊢
  refine ⟨fun h => by rw [ReasonD, if_pos (by rw [← ek]; exact h)], fun h => ?_⟩
  rintro ⟨u, _⟩ _ eu
  simp only at eu ⊢
  refine ⟨⟨by decide, by rw [eu]; simp [lenF]; omega⟩, ?_⟩
  rintro ⟨z, _⟩ _ ez
  simp only at ez ⊢
  rw [ez, eu, ReasonD, if_neg (by rw [← ek, h]; decide)]; simp
theorem h15 : c_ext_Reason.ok Try.prog GL 15 := con_ok (H := {}) (mkEnv_ok (gl := GL) (l := [(56, conSem c_ext_reason), (49, conSem c_num_Int), (47, conSem c_ext_wrap)]) (q := []) (d := []) _ tyOk (by kernel_rfl) ⟨h56.call, h49.call, h47.call, trivial⟩ trivial trivial) (by kernel_rfl) (by kernel_rfl) (Eq.mp e15 k15)
def t17 : Prop :=
  ∀ (x : q1), (q62 x) -> True -> List.length [SV.dat q83 (q73 x), SV.dat q83 (q74 x), SV.dat q83 (q75 x), SV.dat q83 (q76 x), SV.dat q83 (q77 x), SV.dat q83 (q78 x), SV.dat q83 (q79 x),
  SV.dat q83 (q80 x), SV.dat q83 (q81 x), SV.dat q83 (q82 x), SV.dat q83 (q63 x), SV.dat q83 (q64 x), SV.dat q83 (q65 x), SV.dat q83 (q66 x), SV.dat q83 (q67 x), SV.dat q83 (q68 x), SV.dat
  q83 (q69 x), SV.dat q83 (q70 x), SV.dat q83 (q71 x), SV.dat q83 (q72 x)] <= (65536 : Nat) /\ List.length x.1 = q112 /\ (isTagD (4 : Int) = true /\ lenF [List.take q112 (List.drop q17 x.1)]
  <= q26) /\ (∀ (y : q1), (q16 y) -> y.1 = putB ((4 : Int), List.flatten [List.take q112 (List.drop q17 x.1)]) -> y.1 = SubjectD x.1) /\ True
theorem e17 : t17 = Con.vc c_ext_Subject GL (mkEnv ty [(47, conSem c_ext_wrap)] [] [] [0, 1, 2]) {} Try.f17.ntmps Try.f17.results.toList (bodyOf Try.f17) := by kernel_rfl
theorem k17 : t17 := by
  unfold t17
  delta q1 q62 q83 q73 q74 q75 q76 q77 q78 q79 q80 q81 q82 q63 q64 q65 q66 q67 q68 q69 q70 q71 q72 q112 q17 q26 q16 q130 q117 wyZ
  rintro ⟨n, _⟩ hx hp
  have h20 : n.length = 20 := hx.1.1
  try dsimp +instances only [dft_int, dft_sl, dft_str]
  simp only [true_and, and_true, eq_self_iff_true, implies_true, reduceCtorEq, false_implies, true_implies, decide_eq_true_eq, decide_eq_false_iff_not, beq_self_eq_true, Bool.not_eq_true', ne_eq, Decidable.not_not, List.nil_append, List.length_singleton, List.length_cons, List.length_nil, Nat.zero_add, Nat.add_zero, Nat.mul_one, and_self, beq_iff_eq, Bool.not_true, Bool.not_false, Bool.not_eq_false', Bool.cond_false_right, Bool.and_eq_true, imp_self, Bool.not_eq_true, Bool.cond_true_left, Bool.or_eq_true]
  rw [take20 h20]
  refine ⟨by decide, h20, ⟨by decide, by simp [lenF]; omega⟩, ?_⟩
  rintro ⟨z, _⟩ _ ez
  simp only at ez ⊢
  rw [ez]; simp [SubjectD]
theorem h17 : c_ext_Subject.ok Try.prog GL 17 := con_ok (H := {}) (mkEnv_ok (gl := GL) (l := [(47, conSem c_ext_wrap)]) (q := []) (d := []) _ tyOk (by kernel_rfl) ⟨h47.call, trivial⟩ trivial trivial) (by kernel_rfl) (by kernel_rfl) (Eq.mp e17 k17)
def t19 : Prop :=
  ∀ (x : q1), (q62 x) -> True -> List.length [SV.dat q83 (q73 x), SV.dat q83 (q74 x), SV.dat q83 (q75 x), SV.dat q83 (q76 x), SV.dat q83 (q77 x), SV.dat q83 (q78 x), SV.dat q83 (q79 x),
  SV.dat q83 (q80 x), SV.dat q83 (q81 x), SV.dat q83 (q82 x), SV.dat q83 (q63 x), SV.dat q83 (q64 x), SV.dat q83 (q65 x), SV.dat q83 (q66 x), SV.dat q83 (q67 x), SV.dat q83 (q68 x), SV.dat
  q83 (q69 x), SV.dat q83 (q70 x), SV.dat q83 (q71 x), SV.dat q83 (q72 x)] <= (65536 : Nat) /\ List.length x.1 = q112 /\ (isTagD (128 : Int) = true /\ lenF [List.take q112 (List.drop q17
  x.1)] <= q26) /\ (∀ (y : q1), (q16 y) -> y.1 = putB ((128 : Int), List.flatten [List.take q112 (List.drop q17 x.1)]) -> (isTagD q60 = true /\ lenF [y.1] <= q26) /\ (∀ (y_1 : q1), (q16 y_1)
  -> y_1.1 = putB (q60, List.flatten [y.1]) -> y_1.1 = IssuerD x.1) /\ True) /\ True
theorem e19 : t19 = Con.vc c_ext_Issuer GL (mkEnv ty [(47, conSem c_ext_wrap)] [] [] [0, 1, 2]) {} Try.f19.ntmps Try.f19.results.toList (bodyOf Try.f19) := by kernel_rfl
theorem k19 : t19 := by
  unfold t19
  delta q1 q62 q83 q73 q74 q75 q76 q77 q78 q79 q80 q81 q82 q63 q64 q65 q66 q67 q68 q69 q70 q71 q72 q112 q17 q26 q16 q60 q130 q117 wyZ
  rintro ⟨n, _⟩ hx hp
  have h20 : n.length = 20 := hx.1.1
  have hl : (putB (128, n)).length = 22 := by rw [put_small (x := (128, n)) (by simp only; omega)]; simp only; omega
  try dsimp +instances only [dft_int, dft_sl, dft_str]
  simp only [true_and, and_true, eq_self_iff_true, implies_true, reduceCtorEq, false_implies, true_implies, decide_eq_true_eq, decide_eq_false_iff_not, beq_self_eq_true, Bool.not_eq_true', ne_eq, Decidable.not_not, List.nil_append, List.length_singleton, List.length_cons, List.length_nil, Nat.zero_add, Nat.add_zero, Nat.mul_one, and_self, beq_iff_eq, Bool.not_true, Bool.not_false, Bool.not_eq_false', Bool.cond_false_right, Bool.and_eq_true, imp_self, Bool.not_eq_true, Bool.cond_true_left, Bool.or_eq_true]
  rw [take20 h20]
  refine ⟨by decide, h20, ⟨by decide, by simp [lenF]; omega⟩, ?_⟩
  rintro ⟨y, _⟩ _ ey
  simp only at ey ⊢
  have ey : y = putB (128, n) := by rw [ey]; simp
  refine ⟨⟨by decide, by rw [ey]; simp [lenF]; omega⟩, ?_⟩
  rintro ⟨z, _⟩ _ ez
  simp only at ez ⊢
  rw [ez, ey]; simp [IssuerD]
theorem h19 : c_ext_Issuer.ok Try.prog GL 19 := con_ok (H := {}) (mkEnv_ok (gl := GL) (l := [(47, conSem c_ext_wrap)]) (q := []) (d := []) _ tyOk (by kernel_rfl) ⟨h47.call, trivial⟩ trivial trivial) (by kernel_rfl) (by kernel_rfl) (Eq.mp e19 k19)
def t50 : Prop :=
  ∀ (x : Int × List Int × Unit), (wiZ x.1 /\ wyZ x.2.1 /\ True) -> q11 <= x.1 /\ x.1 <= q8 /\ lenB x.2.1 <= q26 -> (lenB x.2.1 <= q26 /\ q11 <= x.1 /\ x.1 <= q8) /\ (∀ (y : q1), (q16 y) ->
  y.1 = putB (x.1, x.2.1) -> y.1 = putB (x.1, x.2.1)) /\ True
theorem e50 : t50 = Con.vc c_r15_Put GL (mkEnv ty [(102, conSem c_r01_Bytes)] [] [] [0, 1, 4]) {} Try.f50.ntmps Try.f50.results.toList (bodyOf Try.f50) := by kernel_rfl
theorem k50 : t50 := by
  unfold t50
  delta wiZ wyZ q11 q8 q26 q1 q16
  rintro ⟨t, c, _⟩ hx hp
  try dsimp +instances only [dft_int, dft_sl, dft_str]
  simp only [true_and, and_true, eq_self_iff_true, implies_true, reduceCtorEq, false_implies, true_implies, decide_eq_true_eq, decide_eq_false_iff_not, beq_self_eq_true, Bool.not_eq_true', ne_eq, Decidable.not_not, List.nil_append, List.length_singleton, List.length_cons, List.length_nil, Nat.zero_add, Nat.add_zero, Nat.mul_one, and_self, beq_iff_eq, Bool.not_true, Bool.not_false, Bool.not_eq_false', Bool.cond_false_right, Bool.and_eq_true, imp_self, Bool.not_eq_true, Bool.cond_true_left, Bool.or_eq_true]
  exact ⟨hp.2.2, hp.1, hp.2.1⟩
theorem h50 : c_r15_Put.ok Try.prog GL 50 := con_ok (H := {}) (mkEnv_ok (gl := GL) (l := [(102, conSem c_r01_Bytes)]) (q := []) (d := []) _ tyOk (by kernel_rfl) ⟨h102.call, trivial⟩ trivial trivial) (by kernel_rfl) (by kernel_rfl) (Eq.mp e50 k50)
def t9 : Prop :=
  ∀ (x : (Bool × Int) × Unit), (Kd.wf q59 x.1 /\ True) -> True -> List.length [SV.dat Kd.bool x.1.1, SV.dat q25 x.1.2] <= (65536 : Nat) /\ (decide (x.1.2 < q142) = false -> True) /\ (q58 x)
  /\ (q58 x) /\ (decide (x.1.2 < q142) = false -> (decide (x.1.2 < q142) == false) = true) /\ (q57 x) /\ (q53 x) /\ (q53 x) /\ (q57 x) /\ ((q55 x) = true -> decide (x.1.2 ≠ q142) = true ->
  True) /\ (q84 x) /\ (q84 x) /\ ((q111 x) = false -> (q55 x) = true /\ (decide (x.1.2 ≠ q142) = true -> (q113 x) = true) /\ True) /\ (q54 x) /\ ((q85 x) = true -> ([], (150 : Int)) = BasicD
  x.1) /\ ((q85 x) = false -> (x.1.1 = true -> True /\ (∀ (y : q1), (q16 y) -> y.1 = BoolD true -> (q11 <= q105 /\ q105 <= q8 /\ lenB y.1 <= q26) /\ (∀ (y_1 : q1), (q16 y_1) -> y_1.1 = putB
  (q105, y.1) -> q17 < q18 /\ (q17 + List.length y_1.1) * q18 <= q14 /\ q17 + List.length y_1.1 <= q13 /\ (decide (x.1.2 ≠ q142) = true -> True /\ (∀ (y : q1), (q16 y) -> y.1 = IntD x.1.2 ->
  (q86 y) /\ (∀ (y_2 : q1), (q16 y_2) -> y_2.1 = putB (q104, y.1) -> q17 < q18 /\ (List.length ([] ++ y_1.1) + List.length y_2.1) * q18 <= q14 /\ List.length ([] ++ y_1.1) + List.length y_2.1
  <= q13 /\ (q11 <= q60 /\ q60 <= q8 /\ lenB ([] ++ y_1.1 ++ y_2.1) <= q26) /\ (∀ (y : q1), (q16 y) -> y.1 = putB (q60, [] ++ y_1.1 ++ y_2.1) -> (y.1, q11) = BasicD x.1) /\ True) /\ True) /\
  True) /\ (decide (x.1.2 ≠ q142) = false -> (q11 <= q60 /\ q60 <= q8 /\ lenB ([] ++ y_1.1) <= q26) /\ (∀ (y : q1), (q16 y) -> y.1 = putB (q60, [] ++ y_1.1) -> (y.1, q11) = BasicD x.1) /\
  True)) /\ True) /\ True) /\ (x.1.1 = false -> (decide (x.1.2 ≠ q142) = true -> True /\ (∀ (y : q1), (q16 y) -> y.1 = IntD x.1.2 -> (q86 y) /\ (∀ (y_1 : q1), (q16 y_1) -> y_1.1 = putB (q104,
  y.1) -> q17 < q18 /\ (q17 + List.length y_1.1) * q18 <= q14 /\ q17 + List.length y_1.1 <= q13 /\ (q11 <= q60 /\ q60 <= q8 /\ lenB ([] ++ y_1.1) <= q26) /\ (∀ (y : q1), (q16 y) -> y.1 = putB
  (q60, [] ++ y_1.1) -> (y.1, q11) = BasicD x.1) /\ True) /\ True) /\ True) /\ (decide (x.1.2 ≠ q142) = false -> (q11 <= q60 /\ q60 <= q8 /\ q17 <= q26) /\ (∀ (y : q1), (q16 y) -> y.1 = putB
  (q60, []) -> (y.1, q11) = BasicD x.1) /\ True)))
theorem e9 : t9 = Con.vc c_r15_Basic GL (mkEnv ty [(51, conSem c_r02_Bool), (52, conSem c_r02_Int), (50, conSem c_r15_Put)] [] [] [0, 1, 2, 3, 4, 22, 24, 31]) {} Try.f9.ntmps Try.f9.results.toList (bodyOf Try.f9) := by kernel_rfl
theorem k9 : t9 := by
  unfold t9
  delta q59 q25 q142 q58 q57 q53 q55 q84 q111 q113 q54 q85 q1 q16 q11 q105 q8 q26 q17 q18 q14 q13 q86 q104 q60 q122 q140 wyZ
  rintro ⟨⟨c, n⟩, _⟩ hx hp
  try dsimp +instances only [dft_int, dft_sl, dft_str]
  simp only [true_and, and_true, eq_self_iff_true, implies_true, reduceCtorEq, false_implies, true_implies, decide_eq_true_eq, decide_eq_false_iff_not, beq_self_eq_true, Bool.not_eq_true', ne_eq, Decidable.not_not, List.nil_append, List.length_singleton, List.length_cons, List.length_nil, Nat.zero_add, Nat.add_zero, Nat.mul_one, and_self, beq_iff_eq, Bool.not_true, Bool.not_false, Bool.not_eq_false', Bool.cond_false_right, Bool.and_eq_true, imp_self, Bool.not_eq_true, Bool.cond_true_left, Bool.or_eq_true]
  have hi := int_len n
  refine ⟨by decide, fun a b => ⟨a, b⟩, fun a b => ⟨a, b⟩, fun a => ⟨a, fun b => ⟨a, b⟩⟩, fun h => (basic_no (h.imp id fun x => ⟨x.2, x.1⟩)).symm, fun h => ?_⟩
  have h1 : ¬ (n < -1 ∨ 100 < n) ∧ ¬ (c = false ∧ n ≠ -1) := by cases c <;> simp at h ⊢ <;> omega
  have hm := basic_ok h1.1 h1.2
  have hcl := ca_len c
  have hpl := path_len n
  rw [hm]
  refine ⟨fun hc => ?_, fun hc => ?_⟩
  . rintro ⟨v, _⟩ _ ev
    simp only at ev ⊢
    refine ⟨⟨by decide, by decide, by rw [ev]; simp [lenB, BoolD]⟩, ?_⟩
    rintro ⟨w, _⟩ _ ew
    simp only at ew ⊢
    have hca : w = caB c := by rw [ew, ev, hc]; rfl
    have hwl : w.length ≤ 3 := by rw [hca]; exact hcl
    refine ⟨by decide, by omega, by omega, fun h0 => ?_, fun h0 => ?_⟩
    . rintro ⟨u, _⟩ _ eu
      simp only at eu ⊢
      refine ⟨⟨by decide, by decide, by rw [eu, lenB]; omega⟩, ?_⟩
      rintro ⟨q, _⟩ _ eq
      simp only at eq ⊢
      have hpa : q = pathB n := by rw [eq, eu, pathB, if_neg h0]
      have hql : q.length ≤ 10 := by rw [hpa]; exact hpl
      refine ⟨by decide, by omega, by omega, ⟨by decide, by decide, by rw [lenB, List.length_append]; omega⟩, ?_⟩
      rintro ⟨z, _⟩ _ ez
      simp only at ez ⊢
      rw [ez, hca, hpa]
    . have hpa : pathB n = [] := by rw [pathB, if_pos h0]
      refine ⟨⟨by decide, by decide, by rw [lenB]; omega⟩, ?_⟩
      rintro ⟨z, _⟩ _ ez
      simp only at ez ⊢
      rw [ez, hca, hpa, List.append_nil]
  . have hn : n = -1 := by
      by_cases e : n = -1
      . exact e
      . exact absurd ⟨hc, e⟩ h1.2
    refine ⟨fun h0 => absurd hn h0, fun h0 => ⟨⟨by decide, by decide, by decide⟩, ?_⟩⟩
    rintro ⟨z, _⟩ _ ez
    simp only at ez ⊢
    rw [ez, pathB, if_pos hn, hc]; rfl
theorem h9 : c_r15_Basic.ok Try.prog GL 9 := con_ok (H := {}) (mkEnv_ok (gl := GL) (l := [(51, conSem c_r02_Bool), (52, conSem c_r02_Int), (50, conSem c_r15_Put)]) (q := []) (d := []) _ tyOk (by kernel_rfl) ⟨h51.call, h52.call, h50.call, trivial⟩ trivial trivial) (by kernel_rfl) (by kernel_rfl) (Eq.mp e9 k9)
def t12 : Prop :=
  ∀ (x : q0), (q43 x) -> True -> (decide (x.1 = q11) = false -> True) /\ (decide (x.1 = q11) = false -> (decide (x.1 = q11) == false) = true /\ True) /\ (decide (x.1 = q11) = false -> (decide
  (x.1 = q11) == false) = true) /\ ((bif decide (x.1 = q11) then true else decide ((511 : Int) < x.1)) = true -> ([], (150 : Int)) = UsageD x.1) /\ ((bif decide (x.1 = q11) then true else
  decide ((511 : Int) < x.1)) = false -> True /\ (∀ (y : q1), (q16 y) -> y.1 = FlagsD (q108 x) -> (q11 <= (3 : Int) /\ (3 : Int) <= q8 /\ lenB y.1 <= q26) /\ (∀ (y_1 : q1), (q16 y_1) -> y_1.1
  = putB ((3 : Int), y.1) -> (y_1.1, q11) = UsageD x.1) /\ True) /\ True)
theorem e12 : t12 = Con.vc c_r15_Usage GL (mkEnv ty [(55, conSem c_r02_Flags), (50, conSem c_r15_Put)] [] [] [0, 2, 3, 9]) {} Try.f12.ntmps Try.f12.results.toList (bodyOf Try.f12) := by kernel_rfl
theorem k12 : t12 := by
  unfold t12
  delta q0 q43 q11 q1 q16 q108 q8 q26 wyZ
  rintro ⟨n, _⟩ hx hp
  try dsimp +instances only [dft_int, dft_sl, dft_str]
  simp only [true_and, and_true, eq_self_iff_true, implies_true, reduceCtorEq, false_implies, true_implies, decide_eq_true_eq, decide_eq_false_iff_not, beq_self_eq_true, Bool.not_eq_true', ne_eq, Decidable.not_not, List.nil_append, List.length_singleton, List.length_cons, List.length_nil, Nat.zero_add, Nat.add_zero, Nat.mul_one, and_self, beq_iff_eq, Bool.not_true, Bool.not_false, Bool.not_eq_false', Bool.cond_false_right, Bool.and_eq_true, imp_self, Bool.not_eq_true, Bool.cond_true_left, Bool.or_eq_true]
  have hl := flags_len n.toNat
  refine ⟨fun h => by rw [UsageD, if_pos h], fun h => ?_⟩
  have h1 : ¬ (n = 0 ∨ 511 < n) := by simp at h; omega
  rintro ⟨u, _⟩ _ eu
  simp only at eu ⊢
  refine ⟨⟨by decide, by decide, by rw [eu, lenB]; omega⟩, ?_⟩
  rintro ⟨z, _⟩ _ ez
  simp only at ez ⊢
  rw [ez, eu, UsageD, if_neg h1]
theorem h12 : c_r15_Usage.ok Try.prog GL 12 := con_ok (H := {}) (mkEnv_ok (gl := GL) (l := [(55, conSem c_r02_Flags), (50, conSem c_r15_Put)]) (q := []) (d := []) _ tyOk (by kernel_rfl) ⟨h55.call, h50.call, trivial⟩ trivial trivial) (by kernel_rfl) (by kernel_rfl) (Eq.mp e12 k12)
def t14 : Prop :=
  ∀ (x : q0), (wiZ x.1 /\ True) -> True -> (decide (x.1 < q11) = true -> ([], (150 : Int)) = NumberD x.1) /\ (decide (x.1 < q11) = false -> True /\ (∀ (y : q1), (q16 y) -> y.1 = IntD x.1 ->
  (q86 y) /\ (∀ (y_1 : q1), (q16 y_1) -> y_1.1 = putB (q104, y.1) -> (y_1.1, q11) = NumberD x.1) /\ True) /\ True)
theorem e14 : t14 = Con.vc c_r15_Number GL (mkEnv ty [(52, conSem c_r02_Int), (50, conSem c_r15_Put)] [] [] [0, 2, 3, 5]) {} Try.f14.ntmps Try.f14.results.toList (bodyOf Try.f14) := by kernel_rfl
theorem k14 : t14 := by
  unfold t14
  delta q0 wiZ q11 q1 q16 q86 q104 wyZ
  rintro ⟨n, _⟩ hx hp
  try dsimp +instances only [dft_int, dft_sl, dft_str]
  simp only [true_and, and_true, eq_self_iff_true, implies_true, reduceCtorEq, false_implies, true_implies, decide_eq_true_eq, decide_eq_false_iff_not, beq_self_eq_true, Bool.not_eq_true', ne_eq, Decidable.not_not, List.nil_append, List.length_singleton, List.length_cons, List.length_nil, Nat.zero_add, Nat.add_zero, Nat.mul_one, and_self, beq_iff_eq, Bool.not_true, Bool.not_false, Bool.not_eq_false', Bool.cond_false_right, Bool.and_eq_true, imp_self, Bool.not_eq_true, Bool.cond_true_left, Bool.or_eq_true]
  have hl := int_len n
  refine ⟨fun h => by rw [NumberD, if_pos h], fun h => ?_⟩
  rintro ⟨u, _⟩ _ eu
  simp only at eu ⊢
  refine ⟨⟨by decide, by decide, by rw [eu, lenB]; omega⟩, ?_⟩
  rintro ⟨z, _⟩ _ ez
  simp only at ez ⊢
  rw [ez, eu, NumberD, if_neg h]
theorem h14 : c_r15_Number.ok Try.prog GL 14 := con_ok (H := {}) (mkEnv_ok (gl := GL) (l := [(52, conSem c_r02_Int), (50, conSem c_r15_Put)]) (q := []) (d := []) _ tyOk (by kernel_rfl) ⟨h52.call, h50.call, trivial⟩ trivial trivial) (by kernel_rfl) (by kernel_rfl) (Eq.mp e14 k14)
def t16 : Prop :=
  ∀ (x : q0), (wiZ x.1 /\ True) -> True -> (decide (x.1 < q11) = false -> True) /\ (decide (x.1 < q11) = false -> (decide (x.1 < q11) == false) = true /\ True) /\ (decide (x.1 < q11) = false
  -> (decide (x.1 < q11) == false) = true) /\ ((q88 x) = false -> True) /\ ((q88 x) = false -> ((q88 x) == false) = true /\ True) /\ ((q88 x) = false -> ((q88 x) == false) = true) /\ ((q87 x)
  = true -> ([], (150 : Int)) = ReasonD x.1) /\ ((q87 x) = false -> True /\ (∀ (y : q1), (q16 y) -> y.1 = IntD x.1 -> (q11 <= (10 : Int) /\ (10 : Int) <= q8 /\ lenB y.1 <= q26) /\ (∀ (y_1 :
  q1), (q16 y_1) -> y_1.1 = putB ((10 : Int), y.1) -> (y_1.1, q11) = ReasonD x.1) /\ True) /\ True)
theorem e16 : t16 = Con.vc c_r15_Reason GL (mkEnv ty [(52, conSem c_r02_Int), (50, conSem c_r15_Put)] [] [] [0, 2, 3, 13]) {} Try.f16.ntmps Try.f16.results.toList (bodyOf Try.f16) := by kernel_rfl
theorem k16 : t16 := by
  unfold t16
  delta q0 wiZ q11 q88 q87 q1 q16 q8 q26 wyZ
  rintro ⟨n, _⟩ hx hp
  try dsimp +instances only [dft_int, dft_sl, dft_str]
  simp only [true_and, and_true, eq_self_iff_true, implies_true, reduceCtorEq, false_implies, true_implies, decide_eq_true_eq, decide_eq_false_iff_not, beq_self_eq_true, Bool.not_eq_true', ne_eq, Decidable.not_not, List.nil_append, List.length_singleton, List.length_cons, List.length_nil, Nat.zero_add, Nat.add_zero, Nat.mul_one, and_self, beq_iff_eq, Bool.not_true, Bool.not_false, Bool.not_eq_false', Bool.cond_false_right, Bool.and_eq_true, imp_self, Bool.not_eq_true, Bool.cond_true_left, Bool.or_eq_true]
  have hl := int_len n
  have hk : reasonK n = true ↔ ¬ ((n < 0 ∨ 10 < n) ∨ n = 7) := by simp [reasonK]; omega
  refine ⟨fun h => by rw [ReasonD, if_pos (by cases e : reasonK n; rfl; exact absurd h (hk.1 e))], fun h => ?_⟩
  have h1 : reasonK n = true := hk.2 (by simp at h; omega)
  rintro ⟨u, _⟩ _ eu
  simp only at eu ⊢
  refine ⟨⟨by decide, by decide, by rw [eu, lenB]; omega⟩, ?_⟩
  rintro ⟨z, _⟩ _ ez
  simp only at ez ⊢
  rw [ez, eu, ReasonD, if_neg (by rw [h1]; decide)]
theorem h16 : c_r15_Reason.ok Try.prog GL 16 := con_ok (H := {}) (mkEnv_ok (gl := GL) (l := [(52, conSem c_r02_Int), (50, conSem c_r15_Put)]) (q := []) (d := []) _ tyOk (by kernel_rfl) ⟨h52.call, h50.call, trivial⟩ trivial trivial) (by kernel_rfl) (by kernel_rfl) (Eq.mp e16 k16)
def t18 : Prop :=
  ∀ (x : q1), (q62 x) -> True -> List.length [SV.dat q83 (q73 x), SV.dat q83 (q74 x), SV.dat q83 (q75 x), SV.dat q83 (q76 x), SV.dat q83 (q77 x), SV.dat q83 (q78 x), SV.dat q83 (q79 x),
  SV.dat q83 (q80 x), SV.dat q83 (q81 x), SV.dat q83 (q82 x), SV.dat q83 (q63 x), SV.dat q83 (q64 x), SV.dat q83 (q65 x), SV.dat q83 (q66 x), SV.dat q83 (q67 x), SV.dat q83 (q68 x), SV.dat
  q83 (q69 x), SV.dat q83 (q70 x), SV.dat q83 (q71 x), SV.dat q83 (q72 x)] <= (65536 : Nat) /\ List.length x.1 = q112 /\ (q11 <= (4 : Int) /\ (4 : Int) <= q8 /\ lenB (List.take q112
  (List.drop q17 x.1)) <= q26) /\ (∀ (y : q1), (q16 y) -> y.1 = putB ((4 : Int), List.take q112 (List.drop q17 x.1)) -> y.1 = SubjectD x.1) /\ True
theorem e18 : t18 = Con.vc c_r15_Subject GL (mkEnv ty [(50, conSem c_r15_Put)] [] [] [0, 1, 2]) {} Try.f18.ntmps Try.f18.results.toList (bodyOf Try.f18) := by kernel_rfl
theorem k18 : t18 := by
  unfold t18
  delta q1 q62 q83 q73 q74 q75 q76 q77 q78 q79 q80 q81 q82 q63 q64 q65 q66 q67 q68 q69 q70 q71 q72 q112 q11 q8 q17 q26 q16 q130 q117 wyZ
  rintro ⟨n, _⟩ hx hp
  have h20 : n.length = 20 := hx.1.1
  try dsimp +instances only [dft_int, dft_sl, dft_str]
  simp only [true_and, and_true, eq_self_iff_true, implies_true, reduceCtorEq, false_implies, true_implies, decide_eq_true_eq, decide_eq_false_iff_not, beq_self_eq_true, Bool.not_eq_true', ne_eq, Decidable.not_not, List.nil_append, List.length_singleton, List.length_cons, List.length_nil, Nat.zero_add, Nat.add_zero, Nat.mul_one, and_self, beq_iff_eq, Bool.not_true, Bool.not_false, Bool.not_eq_false', Bool.cond_false_right, Bool.and_eq_true, imp_self, Bool.not_eq_true, Bool.cond_true_left, Bool.or_eq_true]
  rw [take20 h20]
  refine ⟨by decide, h20, ⟨by decide, by decide, by rw [lenB]; omega⟩, ?_⟩
  rintro ⟨z, _⟩ _ ez
  simp only at ez ⊢
  rw [ez]; rfl
theorem h18 : c_r15_Subject.ok Try.prog GL 18 := con_ok (H := {}) (mkEnv_ok (gl := GL) (l := [(50, conSem c_r15_Put)]) (q := []) (d := []) _ tyOk (by kernel_rfl) ⟨h50.call, trivial⟩ trivial trivial) (by kernel_rfl) (by kernel_rfl) (Eq.mp e18 k18)
def t20 : Prop :=
  ∀ (x : q1), (q62 x) -> True -> List.length [SV.dat q83 (q73 x), SV.dat q83 (q74 x), SV.dat q83 (q75 x), SV.dat q83 (q76 x), SV.dat q83 (q77 x), SV.dat q83 (q78 x), SV.dat q83 (q79 x),
  SV.dat q83 (q80 x), SV.dat q83 (q81 x), SV.dat q83 (q82 x), SV.dat q83 (q63 x), SV.dat q83 (q64 x), SV.dat q83 (q65 x), SV.dat q83 (q66 x), SV.dat q83 (q67 x), SV.dat q83 (q68 x), SV.dat
  q83 (q69 x), SV.dat q83 (q70 x), SV.dat q83 (q71 x), SV.dat q83 (q72 x)] <= (65536 : Nat) /\ List.length x.1 = q112 /\ (q11 <= (128 : Int) /\ (128 : Int) <= q8 /\ lenB (List.take q112
  (List.drop q17 x.1)) <= q26) /\ (∀ (y : q1), (q16 y) -> y.1 = putB ((128 : Int), List.take q112 (List.drop q17 x.1)) -> (q11 <= q60 /\ q60 <= q8 /\ lenB y.1 <= q26) /\ (∀ (y_1 : q1), (q16
  y_1) -> y_1.1 = putB (q60, y.1) -> y_1.1 = IssuerD x.1) /\ True) /\ True
theorem e20 : t20 = Con.vc c_r15_Issuer GL (mkEnv ty [(50, conSem c_r15_Put)] [] [] [0, 1, 2]) {} Try.f20.ntmps Try.f20.results.toList (bodyOf Try.f20) := by kernel_rfl
theorem k20 : t20 := by
  unfold t20
  delta q1 q62 q83 q73 q74 q75 q76 q77 q78 q79 q80 q81 q82 q63 q64 q65 q66 q67 q68 q69 q70 q71 q72 q112 q11 q8 q17 q26 q16 q60 q130 q117 wyZ
  rintro ⟨n, _⟩ hx hp
  have h20 : n.length = 20 := hx.1.1
  have hl : (putB (128, n)).length = 22 := by rw [put_small (x := (128, n)) (by simp only; omega)]; simp only; omega
  try dsimp +instances only [dft_int, dft_sl, dft_str]
  simp only [true_and, and_true, eq_self_iff_true, implies_true, reduceCtorEq, false_implies, true_implies, decide_eq_true_eq, decide_eq_false_iff_not, beq_self_eq_true, Bool.not_eq_true', ne_eq, Decidable.not_not, List.nil_append, List.length_singleton, List.length_cons, List.length_nil, Nat.zero_add, Nat.add_zero, Nat.mul_one, and_self, beq_iff_eq, Bool.not_true, Bool.not_false, Bool.not_eq_false', Bool.cond_false_right, Bool.and_eq_true, imp_self, Bool.not_eq_true, Bool.cond_true_left, Bool.or_eq_true]
  rw [take20 h20]
  refine ⟨by decide, h20, ⟨by decide, by decide, by rw [lenB]; omega⟩, ?_⟩
  rintro ⟨y, _⟩ _ ey
  simp only at ey ⊢
  refine ⟨⟨by decide, by decide, by rw [ey, lenB]; omega⟩, ?_⟩
  rintro ⟨z, _⟩ _ ez
  simp only at ez ⊢
  rw [ez, ey]; rfl
theorem h20 : c_r15_Issuer.ok Try.prog GL 20 := con_ok (H := {}) (mkEnv_ok (gl := GL) (l := [(50, conSem c_r15_Put)]) (q := []) (d := []) _ tyOk (by kernel_rfl) ⟨h50.call, trivial⟩ trivial trivial) (by kernel_rfl) (by kernel_rfl) (Eq.mp e20 k20)
end Go.Proofs.Ytbdfeddakniaeaa
end
section
namespace Go.Proofs.Ytbdfeddakniaeaa
open Go Go.Vc Go.Pl Go.Proofs
def c_law15_is : Con := { args := [.dat BY, .dat I64, .dat BY, .dat I64], res := [.dat .bool], pre := fun _ => True, post := fun x y => y.1 = (decide (x.1 = x.2.2.1) && decide (x.2.1 = x.2.2.2.1)) }
def c_law15_own : Con := { args := [.own 5 U8, .dat BY, .dat I64, .dat BY, .dat I64], res := [.dat .bool], pre := fun x => lenB x.1 ≤ 1000000000, post := fun x y => x.1 = x.2.2.2.1 → x.2.1 = x.2.2.2.1 → x.2.2.1 = x.2.2.2.2.1 → y.1 = true }
def c_law15_names : Con := { args := [], res := [.dat .bool], pre := fun _ => True, post := fun _ y => y.1 = true }
def c_law15_ExtSmall : Con := { args := [.dat (.pair .bool I64), .dat (.int .u16), .dat I64, .dat (.arr 20 U8)], res := [.dat .bool], pre := fun x => ABulk [.dat (.pair .bool I64), .dat (.int .u16), .dat I64, .dat (.arr 20 U8)] x ≤ 1048576, post := fun _ y => y.1 = true }
end Go.Proofs.Ytbdfeddakniaeaa
end
section
namespace Go.Proofs.Ytbdfeddakniaeaa
open Go Go.Vc Go.Pl Go.Proofs
set_option maxHeartbeats 4000000
theorem put_le (t : Int) (c : List Int) (n : Nat) (h : c.length ≤ n) : (putB (t, c)).length ≤ n + 5 := by
  have := (lng_len (n := (c.length : Int))).2
  rw [put_len]; simp only; omega
theorem basic_len (v : Bool × Int) : (BasicD v).1.length ≤ 1000000000 := by
  have h1 := ca_len v.1
  have h2 := path_len v.2
  unfold BasicD
  split
  . simp
  . have := put_le 48 (caB v.1 ++ pathB v.2) 13 (by rw [List.length_append]; omega)
    simp only; omega
theorem usage_len (v : Int) : (UsageD v).1.length ≤ 1000000000 := by
  unfold UsageD
  split
  . simp
  . have := put_le 3 (FlagsD v.toNat) 3 (flags_len _)
    simp only; omega
theorem number_len (v : Int) : (NumberD v).1.length ≤ 1000000000 := by
  unfold NumberD
  split
  . simp
  . have := put_le 2 (IntD v) 8 (int_len _)
    simp only; omega
theorem reason_len (v : Int) : (ReasonD v).1.length ≤ 1000000000 := by
  unfold ReasonD
  split
  . simp
  . have := put_le 10 (IntD v) 8 (int_len _)
    simp only; omega
set_option linter.unusedVariables false
set_option linter.unusedSimpArgs false
abbrev q6 := (Bool × Unit -> Unit × Unit -> Prop)
abbrev q126 (p0 : q4) (p1 : (Bool × Int) × Int × Int × List Int × Unit) := (p0.1 = true -> List.length p1.2.2.2.1 = (20 : Nat) /\ True)
abbrev q134 (p0 : q1) := (wyZ p0.1 /\ True)
abbrev q136 (p0 : q1) (p1 : q1) (p2 : q1) (p3 : q4) := (p0.1 = p1.1 -> p2.1 = p1.1 -> (0 : Int) = (0 : Int) -> p3.1 = true)
abbrev q135 (p0 : q5) (p1 : q5) (p2 : (Bool × Int) × Int × Int × List Int × Unit) (p3 : q6) (p4 : q4) := (p0.2.1 = p0.2.1 /\ p1.2.1 = p1.2.1 /\ Value.bool false = Value.bool false /\ p2.1 =
  p2.1 /\ p2.2.1 = p2.2.1 /\ p2.2.2.1 = p2.2.2.1 /\ p2.2.2.2.1 = p2.2.2.2.1 /\ p2.1.1 = p2.1.1 /\ p2.1.2 = p2.1.2 /\ p2.2.2.2.1 = p2.2.2.2.1 /\ p3 (p4.1, ()) ((), ()))
abbrev q114 (p0 : (Bool × Int) × Int × Int × List Int × Unit) (p1 : q1) (p2 : q1) (p3 : q5) (p4 : q5) (p5 : q6) := (List.length p0.2.2.2.1 = (20 : Nat) /\ (True /\ (∀ (y_12 : q1), (q134
  y_12) -> y_12.1 = SubjectD p0.2.2.2.1 -> (lenB p1.1 <= (1000000000 : Nat) /\ (∀ (y_13 : q4), (wbZ y_13.1 /\ True) -> (q136 p1 y_12 p2 y_13) -> (q135 p3 p4 p0 p5 y_13) /\ True) /\ True) /\
  True) /\ True) /\ True)
abbrev q124 (p0 : (Bool × Int) × Int × Int × List Int × Unit) (p1 : q1) (p2 : q1) (p3 : q5) (p4 : q5) (p5 : q6) := (True /\ (∀ (y_12 : q1), (q134 y_12) -> y_12.1 = SubjectD p0.2.2.2.1 ->
  (lenB p1.1 <= (1000000000 : Nat) /\ (∀ (y_13 : q4), (wbZ y_13.1 /\ True) -> (q136 p1 y_12 p2 y_13) -> (q135 p3 p4 p0 p5 y_13) /\ True) /\ True) /\ True) /\ True)
abbrev q138 (p0 : q5) (p1 : q5) (p2 : (Bool × Int) × Int × Int × List Int × Unit) (p3 : q6) := ((((p0.2.1 = p0.2.1 /\ p1.2.1 = p1.2.1 /\ Value.bool false = Value.bool false /\ p2.1 = p2.1
  /\ p2.2.1 = p2.2.1 /\ p2.2.2.1 = p2.2.2.1 /\ p2.2.2.2.1 = p2.2.2.2.1 /\ p2.1.1 = p2.1.1 /\ p2.1.2 = p2.1.2 /\ p2.2.2.2.1 = p2.2.2.2.1 /\ p3 (false, ()) ((), ())) /\ True) /\ True) /\ True)
abbrev q125 (p0 : q5) (p1 : q5) (p2 : (Bool × Int) × Int × Int × List Int × Unit) (p3 : q6) := ((q138 p0 p1 p2 p3) /\ True)
abbrev q123 (p0 : q4) (p1 : (Bool × Int) × Int × Int × List Int × Unit) (p2 : q5) (p3 : q5) (p4 : q6) := ((p0.1 = true -> List.length p1.2.2.2.1 = (20 : Nat) /\ True) /\ ((p0.1 = true ->
  (p0.1 == true) = true /\ True /\ (∀ (y_10 : q1), (q134 y_10) -> y_10.1 = SubjectD p1.2.2.2.1 -> ((p0.1 == true) = true /\ True /\ (∀ (y_11 : q1), (q134 y_11) -> y_11.1 = SubjectD p1.2.2.2.1
  -> ((p0.1 == true) = true /\ True /\ (∀ (y_12 : q1), (q134 y_12) -> y_12.1 = SubjectD p1.2.2.2.1 -> (lenB y_10.1 <= (1000000000 : Nat) /\ (∀ (y_13 : q4), (wbZ y_13.1 /\ True) -> (q136 y_10
  y_12 y_11 y_13) -> (q135 p2 p3 p1 p4 y_13) /\ True) /\ True) /\ True) /\ True) /\ True) /\ True) /\ True) /\ True) /\ (p0.1 = !true -> (q138 p2 p3 p1 p4) /\ True)) /\ True)
abbrev q89 (p0 : q4) (p1 : (Bool × Int) × Int × Int × List Int × Unit) (p2 : q5) (p3 : q5) (p4 : q6) := ((q126 p0 p1) /\ ((p0.1 = true -> (p0.1 == true) = true /\ True /\ (∀ (y_10 : q1),
  (q134 y_10) -> y_10.1 = SubjectD p1.2.2.2.1 -> ((p0.1 == true) = true /\ True /\ (∀ (y_11 : q1), (q134 y_11) -> y_11.1 = SubjectD p1.2.2.2.1 -> (q114 p1 y_10 y_11 p2 p3 p4) /\ True) /\
  True) /\ (List.length p1.2.2.2.1 = q112 /\ ((p0.1 == true) = true /\ True /\ (∀ (y_11 : q1), (q134 y_11) -> y_11.1 = SubjectD p1.2.2.2.1 -> (q124 p1 y_10 y_11 p2 p3 p4) /\ True) /\ True) /\
  True) /\ True) /\ True) /\ (p0.1 = !true -> (q125 p2 p3 p1 p4) /\ (q125 p2 p3 p1 p4) /\ True)) /\ (q123 p0 p1 p2 p3 p4) /\ True)
abbrev q143 (p0 : q4) := (((p0.1 = true -> True /\ (∀ (y : q4), (wbZ y.1 /\ True) -> y.1 = true -> y.1 = true /\ True) /\ True) /\ (p0.1 = !true -> false = true /\ True)) /\ True)
abbrev q141 (p0 : q1) (p1 : q1) (p2 : q1) := (lenB p0.1 <= (1000000000 : Nat) /\ (∀ (y_12 : q4), (wbZ y_12.1 /\ True) -> (p0.1 = p1.1 -> p2.1 = p1.1 -> (0 : Int) = (0 : Int) -> y_12.1 =
  true) -> (q143 y_12) /\ True) /\ True)
abbrev q115 (p0 : (Bool × Int) × Int × Int × List Int × Unit) (p1 : q1) (p2 : q1) := (List.length p0.2.2.2.1 = (20 : Nat) /\ (True /\ (∀ (y_11 : q1), (q134 y_11) -> y_11.1 = IssuerD
  p0.2.2.2.1 -> (q141 p1 y_11 p2) /\ True) /\ True) /\ True)
abbrev q128 (p0 : (Bool × Int) × Int × Int × List Int × Unit) (p1 : q1) (p2 : q1) := (True /\ (∀ (y_11 : q1), (q134 y_11) -> y_11.1 = IssuerD p0.2.2.2.1 -> (q141 p1 y_11 p2) /\ True) /\
  True)
abbrev q139 := (((((false = true /\ True) /\ True) /\ True) /\ True) /\ True)
abbrev q129 := (q139 /\ True)
abbrev q137 (p0 : q4) (p1 : (Bool × Int) × Int × Int × List Int × Unit) (p2 : q1) (p3 : q1) := ((p0.1 == true) = true /\ True /\ (∀ (y_11 : q1), (wyZ y_11.1 /\ True) -> y_11.1 = IssuerD
  p1.2.2.2.1 -> (lenB p2.1 <= (1000000000 : Nat) /\ (∀ (y_12 : q4), (wbZ y_12.1 /\ True) -> (p2.1 = y_11.1 -> p3.1 = y_11.1 -> (0 : Int) = (0 : Int) -> y_12.1 = true) -> (q143 y_12) /\ True)
  /\ True) /\ True) /\ True)
abbrev q127 (p0 : q4) (p1 : (Bool × Int) × Int × Int × List Int × Unit) := ((p0.1 = true -> List.length p1.2.2.2.1 = (20 : Nat) /\ True) /\ ((p0.1 = true -> (p0.1 == true) = true /\ True /\
  (∀ (y : q1), (q134 y) -> y.1 = IssuerD p1.2.2.2.1 -> ((p0.1 == true) = true /\ True /\ (∀ (y_10 : q1), (q134 y_10) -> y_10.1 = IssuerD p1.2.2.2.1 -> (q137 p0 p1 y y_10) /\ True) /\ True) /\
  True) /\ True) /\ (p0.1 = !true -> q139 /\ True)) /\ True)
abbrev q90 (p0 : q4) (p1 : (Bool × Int) × Int × Int × List Int × Unit) := ((q126 p0 p1) /\ ((p0.1 = true -> (p0.1 == true) = true /\ True /\ (∀ (y : q1), (q134 y) -> y.1 = IssuerD
  p1.2.2.2.1 -> ((p0.1 == true) = true /\ True /\ (∀ (y_10 : q1), (q134 y_10) -> y_10.1 = IssuerD p1.2.2.2.1 -> (q115 p1 y y_10) /\ True) /\ True) /\ (List.length p1.2.2.2.1 = q112 /\ ((p0.1
  == true) = true /\ True /\ (∀ (y_10 : q1), (q134 y_10) -> y_10.1 = IssuerD p1.2.2.2.1 -> (q128 p1 y y_10) /\ True) /\ True) /\ True) /\ True) /\ True) /\ (p0.1 = !true -> q129 /\ q129 /\
  True)) /\ (q127 p0 p1) /\ True)
abbrev q91 (p0 : q4) (p1 : (Bool × Int) × Int × Int × List Int × Unit) (p2 : q5) (p3 : q5) (p4 : q6) := ((q126 p0 p1) /\ ((p0.1 = true -> (p0.1 == true) = true /\ True /\ (∀ (y_10 : q1),
  (q134 y_10) -> y_10.1 = SubjectD p1.2.2.2.1 -> (List.length p1.2.2.2.1 = q112 /\ (True /\ (∀ (y_11 : q1), (q134 y_11) -> y_11.1 = SubjectD p1.2.2.2.1 -> ((p0.1 == true) = true /\ True /\ (∀
  (y_12 : q1), (q134 y_12) -> y_12.1 = SubjectD p1.2.2.2.1 -> (lenB y_10.1 <= (1000000000 : Nat) /\ (∀ (y_13 : q4), (wbZ y_13.1 /\ True) -> (q136 y_10 y_12 y_11 y_13) -> (q135 p2 p3 p1 p4
  y_13) /\ True) /\ True) /\ True) /\ True) /\ True) /\ True) /\ True) /\ True) /\ True) /\ (p0.1 = !true -> (q125 p2 p3 p1 p4) /\ True)) /\ (q123 p0 p1 p2 p3 p4) /\ True)
abbrev q92 (p0 : q4) (p1 : (Bool × Int) × Int × Int × List Int × Unit) := ((q126 p0 p1) /\ ((p0.1 = true -> (p0.1 == true) = true /\ True /\ (∀ (y : q1), (q134 y) -> y.1 = IssuerD
  p1.2.2.2.1 -> (List.length p1.2.2.2.1 = q112 /\ (True /\ (∀ (y_10 : q1), (q134 y_10) -> y_10.1 = IssuerD p1.2.2.2.1 -> (q137 p0 p1 y y_10) /\ True) /\ True) /\ True) /\ True) /\ True) /\
  (p0.1 = !true -> q129 /\ True)) /\ (q127 p0 p1) /\ True)
abbrev q93 (p0 : q4) (p1 : (Bool × Int) × Int × Int × List Int × Unit) (p2 : q5) (p3 : q5) (p4 : q6) := ((q126 p0 p1) /\ (q123 p0 p1 p2 p3 p4) /\ True)
abbrev q94 (p0 : q4) (p1 : (Bool × Int) × Int × Int × List Int × Unit) := ((q126 p0 p1) /\ (q127 p0 p1) /\ True)
abbrev q95 (p0 : (Bool × Int) × Int × Int × List Int × Unit) (p1 : q1) (p2 : q5) (p3 : q5) (p4 : q6) := (List.length p0.2.2.2.1 = q112 /\ (True /\ (∀ (y_11 : q1), (q134 y_11) -> y_11.1 =
  SubjectD p0.2.2.2.1 -> (q124 p0 p1 y_11 p2 p3 p4) /\ True) /\ True) /\ True)
abbrev q96 (p0 : (Bool × Int) × Int × Int × List Int × Unit) (p1 : q1) := (List.length p0.2.2.2.1 = q112 /\ (True /\ (∀ (y_10 : q1), (q134 y_10) -> y_10.1 = IssuerD p0.2.2.2.1 -> (q128 p0
  p1 y_10) /\ True) /\ True) /\ True)
abbrev q97 (p0 : q5) (p1 : q5) (p2 : (Bool × Int) × Int × Int × List Int × Unit) (p3 : q6) := ((q138 p0 p1 p2 p3) /\ True)
abbrev q98 (p0 : q4) (p1 : q5) (p2 : q5) (p3 : (Bool × Int) × Int × Int × List Int × Unit) (p4 : q6) := (p0.1 = !true -> p1.2.1 = p1.2.1 /\ p2.2.1 = p2.2.1 /\ Value.bool false = Value.bool
  false /\ p3.1 = p3.1 /\ p3.2.1 = p3.2.1 /\ p3.2.2.1 = p3.2.2.1 /\ p3.2.2.2.1 = p3.2.2.2.1 /\ p3.1.1 = p3.1.1 /\ p3.1.2 = p3.1.2 /\ p3.2.2.2.1 = p3.2.2.2.1 /\ p4 (false, ()) ((), ()))
abbrev q99 := (q139 /\ True)
abbrev q100 (p0 : q4) (p1 : (Bool × Int) × Int × Int × List Int × Unit) := (p0.1 = true -> List.length p1.2.2.2.1 = q112 /\ True)
abbrev q101 (p0 : q4) := (p0.1 = true -> True)
def t53 : Prop :=
  ∀ (x : List Int × Int × List Int × Int × Unit), (wyZ x.1 /\ wiZ x.2.1 /\ wyZ x.2.2.1 /\ wiZ x.2.2.2.1 /\ True) -> True -> (decide (x.1 = x.2.2.1) = true -> True) /\ (decide (x.1 = x.2.2.1)
  = true -> True) /\ (decide (x.1 = x.2.2.1) = true -> (decide (x.1 = x.2.2.1) == true) = true /\ (decide (x.1 = x.2.2.1) == true) = true /\ True) /\ (decide (x.1 = x.2.2.1) = true -> (decide
  (x.1 = x.2.2.1) == true) = true) /\ (bif decide (x.1 = x.2.2.1) then decide (x.2.1 = x.2.2.2.1) else false) = (decide (x.1 = x.2.2.1) && decide (x.2.1 = x.2.2.2.1))
theorem e53 : t53 = Con.vc c_law15_is GL (mkEnv ty [] [] [] [0, 1, 2, 3, 8]) {} Try.f53.ntmps Try.f53.results.toList (bodyOf Try.f53) := by kernel_rfl
theorem k53 : t53 := by
  unfold t53
  delta wyZ wiZ
  rintro ⟨x, e, w, b, _⟩ hx hp
  try dsimp +instances only [dft_int, dft_sl, dft_str]
  simp only [true_and, and_true, eq_self_iff_true, implies_true, reduceCtorEq, false_implies, true_implies, decide_eq_true_eq, decide_eq_false_iff_not, beq_self_eq_true, Bool.not_eq_true', ne_eq, Decidable.not_not, List.nil_append, List.length_singleton, List.length_cons, List.length_nil, Nat.zero_add, Nat.add_zero, Nat.mul_one, and_self, beq_iff_eq, Bool.not_true, Bool.not_false, Bool.not_eq_false', Bool.cond_false_right, Bool.and_eq_true, imp_self, Bool.not_eq_true, Bool.cond_true_left, Bool.or_eq_true]
theorem h53 : c_law15_is.ok Try.prog GL 53 := con_ok (H := {}) (mkEnv_ok (gl := GL) (l := []) (q := []) (d := []) _ tyOk (by kernel_rfl) trivial trivial trivial) (by kernel_rfl) (by kernel_rfl) (Eq.mp e53 k53)
def t10 : Prop :=
  ∀ (x : List Int × List Int × Int × List Int × Int × Unit), (wyZ x.1 /\ wyZ x.2.1 /\ wiZ x.2.2.1 /\ wyZ x.2.2.2.1 /\ wiZ x.2.2.2.2.1 /\ True) -> lenB x.1 <= q15 -> True /\ (∀ (y : q4), (wbZ
  y.1 /\ True) -> y.1 = (decide (x.1 = x.2.2.2.1) && decide (x.2.2.1 = x.2.2.2.2.1)) -> ((!y.1) = true -> x.1 = x.2.2.2.1 -> x.2.1 = x.2.2.2.1 -> x.2.2.1 = x.2.2.2.2.1 -> false = true) /\
  ((!y.1) = false -> ∃ (I : q2), ∃ (μ : q3), (Value.bool false = Value.bool false /\ Value.bool false = Value.bool false /\ x.2.1 = x.2.1 /\ x.2.2.1 = x.2.2.1 /\ x.2.2.2.1 = x.2.2.2.1 /\
  x.2.2.2.2.1 = x.2.2.2.2.1 /\ I (q11, ()) (x.1, ())) /\ ∀ (y : q0) (z : q1), (wiZ y.1 /\ True) -> (q16 z) -> I y z -> (decide (y.1 < (lnZ z.1)) = true -> (q11 <= y.1 /\ y.1 < (lnZ z.1)) /\
  (q11 <= y.1 /\ y.1 < (lnZ z.1)) /\ Value.bool false = Value.bool false /\ Value.bool false = Value.bool false /\ x.2.1 = x.2.1 /\ x.2.2.1 = x.2.2.1 /\ x.2.2.2.1 = x.2.2.2.1 /\ x.2.2.2.2.1 =
  x.2.2.2.2.1 /\ I (wrZ (q36 y), ()) (List.set z.1 (q108 y) (IntKind.wrap IntKind.u8 (List.getD z.1 (q108 y) q22 + q105)), ()) /\ μ (wrZ (q36 y), ()) (List.set z.1 (q108 y) (IntKind.wrap
  IntKind.u8 (List.getD z.1 (q108 y) q22 + q105)), ()) < μ y z) /\ (decide (y.1 < (lnZ z.1)) = false -> x.1 = x.2.2.2.1 -> x.2.1 = x.2.2.2.1 -> x.2.2.1 = x.2.2.2.2.1 -> decide (x.2.1 =
  x.2.2.2.1) = true))) /\ True
theorem e10 : t10 = Con.vc c_law15_own GL (mkEnv ty [(53, conSem c_law15_is)] [] [] [0, 1, 2, 3, 4, 10, 11, 17, 21]) {} Try.f10.ntmps Try.f10.results.toList (bodyOf Try.f10) := by kernel_rfl
theorem k10 : t10 := by
  unfold t10
  delta wyZ wiZ q15 q4 wbZ q2 q3 q11 q0 q1 q16 lnZ wrZ q36 q108 q22 q105 q130
  rintro ⟨x, y, e, w, b, _⟩ hx hp
  have hp : x.length ≤ 1000000000 := hp
  try dsimp +instances only [dft_int, dft_sl, dft_str]
  simp only [true_and, and_true, eq_self_iff_true, implies_true, reduceCtorEq, false_implies, true_implies, decide_eq_true_eq, decide_eq_false_iff_not, beq_self_eq_true, Bool.not_eq_true', ne_eq, Decidable.not_not, List.nil_append, List.length_singleton, List.length_cons, List.length_nil, Nat.zero_add, Nat.add_zero, Nat.mul_one, and_self, beq_iff_eq, Bool.not_true, Bool.not_false, Bool.not_eq_false', Bool.cond_false_right, Bool.and_eq_true, imp_self, Bool.not_eq_true, Bool.cond_true_left, Bool.or_eq_true]
  rintro ⟨k, _⟩ _ ek
  simp only at ek ⊢
  refine ⟨fun h h1 _ h2 => ?_, fun _ => ⟨fun i z => 0 ≤ i.1 ∧ z.1.length ≤ 1000000000, fun i z => (z.1.length - i.1).toNat, ⟨by decide, hp⟩, ?_⟩⟩
  . rw [ek, h1, h2] at h
    simp at h
  rintro ⟨i, _⟩ ⟨z, _⟩ _ _ ⟨h1, h2⟩
  simp only at h1 h2 ⊢
  refine ⟨fun hc => ?_, fun hc _ h _ => h⟩
  have hwr : IntKind.wrap .i64 (i + 1) = i + 1 := wrapK _ (by omega) (by omega)
  rw [hwr, List.length_set]
  exact ⟨⟨h1, hc⟩, ⟨h1, hc⟩, ⟨by omega, h2⟩, by omega⟩
theorem h10 : c_law15_own.ok Try.prog GL 10 := con_ok (H := {}) (mkEnv_ok (gl := GL) (l := [(53, conSem c_law15_is)]) (q := []) (d := []) _ tyOk (by kernel_rfl) ⟨h53.call, trivial⟩ trivial trivial) (by kernel_rfl) (by kernel_rfl) (Eq.mp e10 k10)
def t21 : Prop :=
  ∀ (x : Unit), True -> True -> (9 : Nat) <= (65536 : Nat) /\ (9 : Nat) = (9 : Nat) /\ (9 : Nat) = (9 : Nat) /\ (decide ((14 : Int) = (14 : Int)) && (decide ((15 : Int) = (15 : Int)) &&
  (decide ((17 : Int) = (17 : Int)) && (decide ((19 : Int) = (19 : Int)) && (decide ((20 : Int) = (20 : Int)) && (decide ((21 : Int) = (21 : Int)) && (decide ((30 : Int) = (30 : Int)) &&
  (decide ((35 : Int) = (35 : Int)) && (decide ((37 : Int) = (37 : Int)) && true))))))))) = true
theorem e21 : t21 = Con.vc c_law15_names GL (mkEnv ty [] [] [] [0, 1]) {} Try.f21.ntmps Try.f21.results.toList (bodyOf Try.f21) := by kernel_rfl
theorem k21 : t21 := by
  unfold t21
  rintro _ hx hp
  try dsimp +instances only [dft_int, dft_sl, dft_str]
  simp only [true_and, and_true, eq_self_iff_true, implies_true, reduceCtorEq, false_implies, true_implies, decide_eq_true_eq, decide_eq_false_iff_not, beq_self_eq_true, Bool.not_eq_true', ne_eq, Decidable.not_not, List.nil_append, List.length_singleton, List.length_cons, List.length_nil, Nat.zero_add, Nat.add_zero, Nat.mul_one, and_self, beq_iff_eq, Bool.not_true, Bool.not_false, Bool.not_eq_false', Bool.cond_false_right, Bool.and_eq_true, imp_self, Bool.not_eq_true, Bool.cond_true_left, Bool.or_eq_true]
  decide
theorem h21 : c_law15_names.ok Try.prog GL 21 := con_ok (H := {}) (mkEnv_ok (gl := GL) (l := []) (q := []) (d := []) _ tyOk (by kernel_rfl) trivial trivial trivial) (by kernel_rfl) (by kernel_rfl) (Eq.mp e21 k21)
def t3 : Prop :=
  ∀ (x : (Bool × Int) × Int × Int × List Int × Unit), (Kd.wf q59 x.1 /\ Kd.wf (Kd.int IntKind.u16) x.2.1 /\ wiZ x.2.2.1 /\ Kd.wf (Kd.arr q112 q130) x.2.2.2.1 /\ True) -> ABulk [AK.dat q59,
  AK.dat (Kd.int IntKind.u16), AK.dat q25, AK.dat (Kd.arr q112 q130)] x <= (1048576 : Nat) -> List.length [SV.dat Kd.bool x.1.1, SV.dat q25 x.1.2] <= (65536 : Nat) /\ List.length [SV.dat q83
  (List.getD x.2.2.2.1 (nat_lit 0) q22), SV.dat q83 (List.getD x.2.2.2.1 (nat_lit 1) q22), SV.dat q83 (List.getD x.2.2.2.1 (nat_lit 2) q22), SV.dat q83 (List.getD x.2.2.2.1 (nat_lit 3) q22),
  SV.dat q83 (List.getD x.2.2.2.1 (nat_lit 4) q22), SV.dat q83 (List.getD x.2.2.2.1 (nat_lit 5) q22), SV.dat q83 (List.getD x.2.2.2.1 (nat_lit 6) q22), SV.dat q83 (List.getD x.2.2.2.1
  (nat_lit 7) q22), SV.dat q83 (List.getD x.2.2.2.1 (nat_lit 8) q22), SV.dat q83 (List.getD x.2.2.2.1 (nat_lit 9) q22), SV.dat q83 (List.getD x.2.2.2.1 (nat_lit 10) q22), SV.dat q83
  (List.getD x.2.2.2.1 (nat_lit 11) q22), SV.dat q83 (List.getD x.2.2.2.1 (nat_lit 12) q22), SV.dat q83 (List.getD x.2.2.2.1 (nat_lit 13) q22), SV.dat q83 (List.getD x.2.2.2.1 (nat_lit 14)
  q22), SV.dat q83 (List.getD x.2.2.2.1 (nat_lit 15) q22), SV.dat q83 (List.getD x.2.2.2.1 (nat_lit 16) q22), SV.dat q83 (List.getD x.2.2.2.1 (nat_lit 17) q22), SV.dat q83 (List.getD
  x.2.2.2.1 (nat_lit 18) q22), SV.dat q83 (List.getD x.2.2.2.1 (nat_lit 19) q22)] <= (65536 : Nat) /\ True /\ (∀ (y : q5), (q51 y) -> (y.1, y.2.1) = BasicD (x.1.1, x.1.2) -> True /\ (∀ (y_1 :
  q5), (q51 y_1) -> (y_1.1, y_1.2.1) = BasicD (x.1.1, x.1.2) -> True /\ (∀ (y_2 : q5), (q51 y_2) -> (y_2.1, y_2.2.1) = BasicD (x.1.1, x.1.2) -> lenB y.1 <= q15 /\ (∀ (y_3 : q4), (wbZ y_3.1 /\
  True) -> (y.1 = y_2.1 -> y_1.1 = y_2.1 -> y.2.1 = y_2.2.1 -> y_3.1 = true) -> True /\ (∀ (y : q5), (q51 y) -> (y.1, y.2.1) = UsageD x.2.1 -> True /\ (∀ (y_4 : q5), (q51 y_4) -> (y_4.1,
  y_4.2.1) = UsageD x.2.1 -> True /\ (∀ (y_5 : q5), (q51 y_5) -> (y_5.1, y_5.2.1) = UsageD x.2.1 -> ∃ (J : q6), ((q101 y_3) /\ (q101 y_3) /\ (q101 y_3) /\ (q101 y_3) /\ (q101 y_3) /\ (y_3.1 =
  true -> (y_3.1 == true) = true /\ (y_3.1 == true) = true /\ (y_3.1 == true) = true /\ (y_3.1 == true) = true /\ (y_3.1 == true) = true /\ lenB y.1 <= q15 /\ (∀ (y_6 : q4), (wbZ y_6.1 /\
  True) -> (y.1 = y_5.1 -> y_4.1 = y_5.1 -> y.2.1 = y_5.2.1 -> y_6.1 = true) -> y_5.2.1 = y_5.2.1 /\ y.2.1 = y.2.1 /\ Value.bool false = Value.bool false /\ x.1 = x.1 /\ x.2.1 = x.2.1 /\
  x.2.2.1 = x.2.2.1 /\ x.2.2.2.1 = x.2.2.2.1 /\ x.1.1 = x.1.1 /\ x.1.2 = x.1.2 /\ x.2.2.2.1 = x.2.2.2.1 /\ J (y_6.1, ()) ((), ())) /\ True) /\ (q98 y_3 y_5 y x J)) /\ ∀ (u : q4) (z : Unit ×
  Unit), (wbZ u.1 /\ True) -> True /\ True -> J u z -> True /\ (∀ (y : q5), (q51 y) -> (y.1, y.2.1) = NumberD x.2.2.1 -> True /\ (∀ (y_6 : q5), (q51 y_6) -> (y_6.1, y_6.2.1) = NumberD x.2.2.1
  -> True /\ (∀ (y_7 : q5), (q51 y_7) -> (y_7.1, y_7.2.1) = NumberD x.2.2.1 -> ∃ (J : q6), ((q101 u) /\ (q101 u) /\ (q101 u) /\ (q101 u) /\ (q101 u) /\ (u.1 = true -> (u.1 == true) = true /\
  (u.1 == true) = true /\ (u.1 == true) = true /\ (u.1 == true) = true /\ (u.1 == true) = true /\ lenB y.1 <= q15 /\ (∀ (y_8 : q4), (wbZ y_8.1 /\ True) -> (y.1 = y_7.1 -> y_6.1 = y_7.1 ->
  y.2.1 = y_7.2.1 -> y_8.1 = true) -> y_7.2.1 = y_7.2.1 /\ y.2.1 = y.2.1 /\ Value.bool false = Value.bool false /\ x.1 = x.1 /\ x.2.1 = x.2.1 /\ x.2.2.1 = x.2.2.1 /\ x.2.2.2.1 = x.2.2.2.1 /\
  x.1.1 = x.1.1 /\ x.1.2 = x.1.2 /\ x.2.2.2.1 = x.2.2.2.1 /\ J (y_8.1, ()) ((), ())) /\ True) /\ (q98 u y_7 y x J)) /\ ∀ (u : q4) (z : Unit × Unit), (wbZ u.1 /\ True) -> True /\ True -> J u z
  -> True /\ (∀ (y : q5), (q51 y) -> (y.1, y.2.1) = ReasonD x.2.2.1 -> True /\ (∀ (y_8 : q5), (q51 y_8) -> (y_8.1, y_8.2.1) = ReasonD x.2.2.1 -> True /\ (∀ (y_9 : q5), (q51 y_9) -> (y_9.1,
  y_9.2.1) = ReasonD x.2.2.1 -> ∃ (J : q6), ((q101 u) /\ (q101 u) /\ (q101 u) /\ (q101 u) /\ (q101 u) /\ (u.1 = true -> (u.1 == true) = true /\ (u.1 == true) = true /\ (u.1 == true) = true /\
  (u.1 == true) = true /\ (u.1 == true) = true /\ lenB y.1 <= q15 /\ (∀ (y_10 : q4), (wbZ y_10.1 /\ True) -> (y.1 = y_9.1 -> y_8.1 = y_9.1 -> y.2.1 = y_9.2.1 -> y_10.1 = true) -> y_9.2.1 =
  y_9.2.1 /\ y.2.1 = y.2.1 /\ Value.bool false = Value.bool false /\ x.1 = x.1 /\ x.2.1 = x.2.1 /\ x.2.2.1 = x.2.2.1 /\ x.2.2.2.1 = x.2.2.2.1 /\ x.1.1 = x.1.1 /\ x.1.2 = x.1.2 /\ x.2.2.2.1 =
  x.2.2.2.1 /\ J (y_10.1, ()) ((), ())) /\ True) /\ (q98 u y_9 y x J)) /\ ∀ (u : q4) (z : Unit × Unit), (wbZ u.1 /\ True) -> True /\ True -> J u z -> ∃ (J : q6), (((q100 u x) /\ ((u.1 = true
  -> (u.1 == true) = true /\ True /\ (∀ (y_10 : q1), (q16 y_10) -> y_10.1 = SubjectD x.2.2.2.1 -> (List.length x.2.2.2.1 = q112 /\ (True /\ (∀ (y_11 : q1), (q16 y_11) -> y_11.1 = SubjectD
  x.2.2.2.1 -> (q114 x y_10 y_11 y_9 y J) /\ True) /\ True) /\ (q95 x y_10 y_9 y J) /\ True) /\ (List.length x.2.2.2.1 = q112 /\ (q95 x y_10 y_9 y J) /\ True) /\ True) /\ True) /\ (u.1 =
  !true -> ((q97 y_9 y x J) /\ (q97 y_9 y x J) /\ True) /\ ((q97 y_9 y x J) /\ True) /\ True)) /\ (q89 u x y_9 y J) /\ (q91 u x y_9 y J) /\ True) /\ ((q100 u x) /\ (q89 u x y_9 y J) /\ (q93 u
  x y_9 y J) /\ True) /\ ((q100 u x) /\ (q91 u x y_9 y J) /\ (q93 u x y_9 y J) /\ True) /\ True) /\ ∀ (u : q4) (z : Unit × Unit), (wbZ u.1 /\ True) -> True /\ True -> J u z -> ((q100 u x) /\
  ((u.1 = true -> (u.1 == true) = true /\ True /\ (∀ (y : q1), (q16 y) -> y.1 = IssuerD x.2.2.2.1 -> (List.length x.2.2.2.1 = q112 /\ (True /\ (∀ (y_10 : q1), (q16 y_10) -> y_10.1 = IssuerD
  x.2.2.2.1 -> (q115 x y y_10) /\ True) /\ True) /\ (q96 x y) /\ True) /\ (List.length x.2.2.2.1 = q112 /\ (q96 x y) /\ True) /\ True) /\ True) /\ (u.1 = !true -> (q99 /\ q99 /\ True) /\ (q99
  /\ True) /\ True)) /\ (q90 u x) /\ (q92 u x) /\ True) /\ ((q100 u x) /\ (q90 u x) /\ (q94 u x) /\ True) /\ ((q100 u x) /\ (q92 u x) /\ (q94 u x) /\ True) /\ True) /\ True) /\ True) /\ True)
  /\ True) /\ True) /\ True) /\ True) /\ True) /\ True) /\ True) /\ True) /\ True) /\ True
theorem e3 : t3 = Con.vc c_law15_ExtSmall GL (mkEnvO ty [(10, conSem c_law15_own), (21, conSem c_law15_names), (8, conSem c_ext_Basic), (9, conSem c_r15_Basic), (11, conSem c_ext_Usage), (12, conSem c_r15_Usage), (13, conSem c_ext_Number), (14, conSem c_r15_Number), (15, conSem c_ext_Reason), (16, conSem c_r15_Reason), (17, conSem c_ext_Subject), (18, conSem c_r15_Subject), (19, conSem c_ext_Issuer), (20, conSem c_r15_Issuer)] [] [] [0, 1, 2, 3, 4, 7, 8, 9, 10, 11, 13, 14, 15] [1000000]) {joins := [9,13,17,18],drops := [(9,9),(9,11),(9,13),(13,9),(13,11),(13,13),(17,9),(17,11),(17,13),(18,9),(18,11),(18,13)]} Try.f3.ntmps Try.f3.results.toList (bodyOf Try.f3) := by kernel_rfl
theorem k3 : t3 := by
  unfold t3
  delta q59 wiZ q112 q130 q25 q83 q22 q5 q51 q15 q4 wbZ q6 q101 q98 q100 q1 q16 q114 q95 q97 q89 q91 q93 q115 q96 q99 q90 q92 q94 wyZ q134 q136 q135 q124 q138 q126 q125 q123 q141 q128 q139 q129 q127 q137 q143
  rintro ⟨v, s, n, k, _⟩ hx hp
  have h20 : k.length = 20 := hx.2.2.2.1.1
  have s1 : lenB (SubjectD k) ≤ 1000000000 := by rw [lenB, SubjectD, put_small (x := (4, k)) (by simp only; omega)]; simp only; omega
  have s2 : lenB (IssuerD k) ≤ 1000000000 := by
    have hl : (putB (128, k)).length = 22 := by rw [put_small (x := (128, k)) (by simp only; omega)]; simp only; omega
    rw [lenB, IssuerD, put_small (x := (48, putB (128, k))) (by simp only; omega)]; simp only; omega
  have l1 := basic_len v
  have l2 := usage_len s
  have l3 := number_len n
  have l4 := reason_len n
  clear hp hx
  try dsimp +instances only [dft_int, dft_sl, dft_str]
  simp only [true_and, and_true, eq_self_iff_true, implies_true, reduceCtorEq, false_implies, true_implies, decide_eq_true_eq, decide_eq_false_iff_not, beq_self_eq_true, Bool.not_eq_true', ne_eq, Decidable.not_not, List.nil_append, List.length_singleton, List.length_cons, List.length_nil, Nat.zero_add, Nat.add_zero, Nat.mul_one, and_self, beq_iff_eq, Bool.not_true, Bool.not_false, Bool.not_eq_false', Bool.cond_false_right, Bool.and_eq_true, imp_self, Bool.not_eq_true, Bool.cond_true_left, Bool.or_eq_true]
  refine ⟨by decide, by decide, ?_⟩
  rintro ⟨a, e, _⟩ _ h1 ⟨a', e', _⟩ _ h2 ⟨a'', e'', _⟩ _ h3
  simp only at h1 h2 h3 ⊢
  obtain ⟨rfl, rfl⟩ := Prod.mk.inj (h2.trans h1.symm)
  obtain ⟨rfl, rfl⟩ := Prod.mk.inj (h3.trans h1.symm)
  refine ⟨by have := congrArg Prod.fst h1; simp only at this; rw [lenB, this]; exact l1, ?_⟩
  rintro ⟨b, _⟩ _ hb
  obtain rfl : b = true := hb rfl rfl rfl
  rintro ⟨a, e, _⟩ _ h1 ⟨a', e', _⟩ _ h2 ⟨a'', e'', _⟩ _ h3
  simp only at h1 h2 h3 ⊢
  obtain ⟨rfl, rfl⟩ := Prod.mk.inj (h2.trans h1.symm)
  obtain ⟨rfl, rfl⟩ := Prod.mk.inj (h3.trans h1.symm)
  refine ⟨fun u _ => u.1 = true, ⟨fun _ => ⟨by trivial, by trivial, by trivial, by trivial, by trivial, by have := congrArg Prod.fst h1; simp only at this; rw [lenB, this]; exact l2, ?_⟩, fun h => absurd h (by decide)⟩, ?_⟩
  . rintro ⟨b, _⟩ _ hb
    exact hb rfl rfl rfl
  rintro ⟨b, _⟩ _ _ hb
  obtain rfl : b = true := hb
  rintro ⟨a, e, _⟩ _ h1 ⟨a', e', _⟩ _ h2 ⟨a'', e'', _⟩ _ h3
  simp only at h1 h2 h3 ⊢
  obtain ⟨rfl, rfl⟩ := Prod.mk.inj (h2.trans h1.symm)
  obtain ⟨rfl, rfl⟩ := Prod.mk.inj (h3.trans h1.symm)
  refine ⟨fun u _ => u.1 = true, ⟨fun _ => ⟨by trivial, by trivial, by trivial, by trivial, by trivial, by have := congrArg Prod.fst h1; simp only at this; rw [lenB, this]; exact l3, ?_⟩, fun h => absurd h (by decide)⟩, ?_⟩
  . rintro ⟨b, _⟩ _ hb
    exact hb rfl rfl rfl
  rintro ⟨b, _⟩ _ _ hb
  obtain rfl : b = true := hb
  rintro ⟨a, e, _⟩ _ h1 ⟨a', e', _⟩ _ h2 ⟨a'', e'', _⟩ _ h3
  simp only at h1 h2 h3 ⊢
  obtain ⟨rfl, rfl⟩ := Prod.mk.inj (h2.trans h1.symm)
  obtain ⟨rfl, rfl⟩ := Prod.mk.inj (h3.trans h1.symm)
  refine ⟨fun u _ => u.1 = true, ⟨fun _ => ⟨by trivial, by trivial, by trivial, by trivial, by trivial, by have := congrArg Prod.fst h1; simp only at this; rw [lenB, this]; exact l4, ?_⟩, fun h => absurd h (by decide)⟩, ?_⟩
  . rintro ⟨b, _⟩ _ hb
    exact hb rfl rfl rfl
  rintro ⟨b, _⟩ _ _ hb
  obtain rfl : b = true := hb
  clear l1 l2 l3 l4
  refine ⟨fun u _ => u.1 = true, ?_, ?_⟩
  . repeat' first
      | exact h20
      | exact s1
      | exact rfl
      | refine ⟨?_, ?_⟩
      | (intro (hh : true = false); exact absurd hh (by decide))
      | (intro (hh : true = true))
      | (rintro ⟨q, _⟩ _ hq; first | exact hq rfl rfl | (simp only at hq; subst hq))
  rintro ⟨b, _⟩ _ _ hb
  obtain rfl : b = true := hb
  repeat' first
    | exact h20
    | exact s2
    | exact rfl
    | refine ⟨?_, ?_⟩
    | (intro (hh : true = false); exact absurd hh (by decide))
    | (intro (hh : true = true))
    | (rintro ⟨q, _⟩ _ hq hf; have hq := hq rfl rfl; simp only at hq hf; rw [hq] at hf; exact absurd hf (by decide))
    | (rintro ⟨q, _⟩ _ hq; first | exact hq rfl rfl | exact hq | (simp only at hq; subst hq))
theorem h3 : c_law15_ExtSmall.ok Try.prog GL 3 := conO_ok (H := {joins := [9,13,17,18],drops := [(9,9),(9,11),(9,13),(13,9),(13,11),(13,13),(17,9),(17,11),(17,13),(18,9),(18,11),(18,13)]}) (mkEnvO_ok (gl := GL) (l := [(10, conSem c_law15_own), (21, conSem c_law15_names), (8, conSem c_ext_Basic), (9, conSem c_r15_Basic), (11, conSem c_ext_Usage), (12, conSem c_r15_Usage), (13, conSem c_ext_Number), (14, conSem c_r15_Number), (15, conSem c_ext_Reason), (16, conSem c_r15_Reason), (17, conSem c_ext_Subject), (18, conSem c_r15_Subject), (19, conSem c_ext_Issuer), (20, conSem c_r15_Issuer)]) (q := []) (d := []) _ [1000000] tyOk (by kernel_rfl) ⟨h10.call, h21.call, h8.call, h9.call, h11.call, h12.call, h13.call, h14.call, h15.call, h16.call, h17.call, h18.call, h19.call, h20.call, trivial⟩ trivial trivial) (by kernel_rfl) (by kernel_rfl) (Eq.mp e3 k3)
end Go.Proofs.Ytbdfeddakniaeaa
end
