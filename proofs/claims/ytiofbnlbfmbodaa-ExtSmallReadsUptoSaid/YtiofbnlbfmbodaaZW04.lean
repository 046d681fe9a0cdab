/- Texts of a verified walk, led together: Ext1A, Ext1W. -/
import Derived.Test.YtiofbnlbfmbodaaZW03
import Derived.Test.YtiofbnlbfmbodaaZV08
set_option linter.unusedVariables false
set_option linter.unusedSimpArgs false
section
namespace Go.Proofs.Ytiofbnlbfmbodaa
open Go Go.Vc Go.Pl Go.Proofs
def c_ext_wrap : Con := { args := [.dat I64, .dat (.sl BY)], res := [.own 5 U8], pre := fun x => isTagD x.1 = true ∧ lenF x.2.1 ≤ 16777215, post := fun x y => y.1 = putB (x.1, x.2.1.flatten) }
def c_ext_reason : Con := { args := [.dat I64], res := [.dat .bool], pre := fun _ => True, post := fun x y => y.1 = reasonK x.1 }
def c_ext_Subject : Con := { args := [.dat (.arr 20 U8)], res := [.own 5 U8], pre := fun _ => True, post := fun x y => y.1 = SubjectD x.1 }
def c_r15_Put : Con := { args := [.dat I64, .dat BY], res := [.own 5 U8], pre := fun x => 0 ≤ x.1 ∧ x.1 ≤ 255 ∧ lenB x.2.1 ≤ 16777215, post := fun x y => y.1 = putB (x.1, x.2.1) }
def c_r15_Basic : Con := { args := [.dat (.pair .bool I64)], res := [.own 5 U8, .dat I64], pre := fun _ => True, post := fun x y => (y.1, y.2.1) = BasicD x.1 }
def c_r15_Usage : Con := { args := [.dat (.int .u16)], res := [.own 5 U8, .dat I64], pre := fun _ => True, post := fun x y => (y.1, y.2.1) = UsageD x.1 }
def c_r15_Number : Con := { args := [.dat I64], res := [.own 5 U8, .dat I64], pre := fun _ => True, post := fun x y => (y.1, y.2.1) = NumberD x.1 }
def c_r15_Reason : Con := { args := [.dat I64], res := [.own 5 U8, .dat I64], pre := fun _ => True, post := fun x y => (y.1, y.2.1) = ReasonD x.1 }
def c_r15_Subject : Con := { args := [.dat (.arr 20 U8)], res := [.own 5 U8], pre := fun _ => True, post := fun x y => y.1 = SubjectD x.1 }
def c_r15_Issuer : Con := { args := [.dat (.arr 20 U8)], res := [.own 5 U8], pre := fun _ => True, post := fun x y => y.1 = IssuerD x.1 }
end Go.Proofs.Ytiofbnlbfmbodaa
end
section
namespace Go.Proofs.Ytiofbnlbfmbodaa
open Go Go.Vc Go.Pl Go.Proofs
set_option linter.unusedVariables false
set_option linter.unusedSimpArgs false
theorem basic_ok {c : Bool} {n : Int} (h : ¬ (n < -1 ∨ 100 < n)) (hc : ¬ (c = false ∧ n ≠ -1)) : BasicD (c, n) = (putB (48, caB c ++ pathB n), 0) := by
  rw [BasicD, if_neg]
  rintro (h' | h' | h')
  . exact h (.inl h')
  . exact h (.inr h')
  . exact hc h'
theorem basic_no {c : Bool} {n : Int} (h : (n < -1 ∨ 100 < n) ∨ (c = false ∧ n ≠ -1)) : BasicD (c, n) = ([], 150) := by
  rw [BasicD, if_pos]
  rcases h with (h | h) | h
  . exact .inl h
  . exact .inr (.inl h)
  . exact .inr (.inr h)
theorem take20 {n : List Int} (h : n.length = 20) : List.take 20 (List.drop 0 n) = n := by rw [List.drop_zero, List.take_of_length_le (by omega)]
abbrev q126 (p0 : q0) := (bif decide (q175 p0) then decide (p0.1 <= (10 : Int)) else false)
abbrev q207 := (20 : Nat)
abbrev q127 (p0 : q1) := (Kd.wf (Kd.arr q207 q221) p0.1 /\ True)
abbrev q128 := (Kd.int IntKind.u8)
abbrev q129 := (20 : Nat)
abbrev q188 (p0 : (Bool × Int) × Unit) := (bif decide (p0.1.2 < q219) then true else decide ((100 : Int) < p0.1.2))
abbrev q187 (p0 : (Bool × Int) × Unit) := ((bif decide (p0.1.2 < q219) then true else decide ((100 : Int) < p0.1.2)) == false && (bif decide (p0.1.2 < q219) then true else decide ((100 :
  Int) < p0.1.2)) == false && decide (p0.1.2 ≠ q219) == true)
abbrev q130 (p0 : (Bool × Int) × Unit) := (((q188 p0) == false && (q188 p0) == false) = true -> decide (p0.1.2 ≠ q219) = true -> (q187 p0) = true /\ True)
abbrev q131 (p0 : (Bool × Int) × Unit) := ((q188 p0) = false -> ((q188 p0) == false) = true /\ True)
abbrev q132 (p0 : (Bool × Int) × Unit) := ((q188 p0) == false && (q188 p0) == false)
abbrev q133 (p0 : (Bool × Int) × Unit) := (bif bif decide (p0.1.2 < q219) then true else decide ((100 : Int) < p0.1.2) then true else bif decide (p0.1.2 ≠ q219) then !p0.1.1 else false)
abbrev q134 (p0 : q1) := (q179 <= (2 : Int) /\ (2 : Int) <= (255 : Int) /\ lenB p0.1 <= (16777215 : Nat))
abbrev q135 (p0 : (Bool × Int) × Unit) := (bif decide (p0.1.2 < q219) then true else decide ((100 : Int) < p0.1.2))
abbrev q136 := (150 : Int)
abbrev q137 (p0 : q0) := (bif bif decide (p0.1 < q179) then true else decide ((10 : Int) < p0.1) then true else decide (p0.1 = (7 : Int)))
abbrev q138 (p0 : q0) := (bif decide (p0.1 < q179) then true else decide ((10 : Int) < p0.1))
def t31 : Prop :=
  ∀ (x : Int × List (List Int) × Unit), (wiZ x.1 /\ Kd.wf (Kd.sl q34) x.2.1 /\ True) -> isTagD x.1 = true /\ lenF x.2.1 <= q72 -> lenB [] <= (900000000 : Nat) /\ (∀ (y : q9), (q117 y) ->
  (y.1, y.2.1) = PutD [] x.1 (List.flatten x.2.1) -> y.1 = putB (x.1, List.flatten x.2.1)) /\ True
theorem e31 : t31 = Con.vc c_ext_wrap GL (mkEnv ty [(78, conSem c_der_Put)] [] [] [0, 1, 4, 5]) {} Try.f31.ntmps Try.f31.results.toList (bodyOf Try.f31) := by kernel_rfl
theorem k31 : t31 := by
  unfold t31
  delta wiZ q34 q72 q9 q117 q221 wyZ
  rintro ⟨t, cs, _⟩ hx hp
  obtain ⟨h1, h2⟩ := hp
  simp only [lenF] at h1 h2
  try dsimp +instances only [dft_int, dft_sl, dft_str]
  simp only [true_and, and_true, eq_self_iff_true, implies_true, reduceCtorEq, false_implies, true_implies, decide_eq_true_eq, decide_eq_false_iff_not, beq_self_eq_true, Bool.not_eq_true', ne_eq, Decidable.not_not, List.nil_append, List.length_singleton, List.length_cons, List.length_nil, Nat.zero_add, Nat.add_zero, Nat.mul_one, and_self, beq_iff_eq, Bool.not_true, Bool.not_false, Bool.not_eq_false', Bool.cond_false_right, Bool.and_eq_true, imp_self, Bool.not_eq_true, Bool.cond_true_left, Bool.or_eq_true]
  refine ⟨by simp [lenB], ?_⟩
  rintro ⟨y, e, _⟩ _ h
  simp only at h ⊢
  rw [put_nil t _ h1 h2] at h
  exact (Prod.mk.inj h).1
theorem h31 : c_ext_wrap.ok Try.prog GL 31 := con_ok (H := {}) (mkEnv_ok (gl := GL) (l := [(78, conSem c_der_Put)]) (q := []) (d := []) _ tyOk (by kernel_rfl) ⟨h78.call, trivial⟩ trivial trivial) (by kernel_rfl) (by kernel_rfl) (Eq.mp e31 k31)
def t68 : Prop :=
  ∀ (x : q0), (q17 x) -> True -> (decide (q175 x) = true -> True) /\ (q15 x) /\ (q16 x) /\ ((q126 x) = true -> True) /\ ((q126 x) = true -> ((q126 x) == true) = true /\ True) /\ ((q126 x) =
  true -> ((q126 x) == true) = true) /\ (bif bif decide (q175 x) then decide (x.1 <= q61) else false then decide (x.1 ≠ (7 : Int)) else false) = reasonK x.1
theorem e68 : t68 = Con.vc c_ext_reason GL (mkEnv ty [] [] [] [0, 2]) {} Try.f68.ntmps Try.f68.results.toList (bodyOf Try.f68) := by kernel_rfl
theorem k68 : t68 := by
  unfold t68
  delta q0 q17 q175 q15 q16 q126 q61 wiZ
  rintro ⟨n, _⟩ hx hp
  try dsimp +instances only [dft_int, dft_sl, dft_str]
  simp only [true_and, and_true, eq_self_iff_true, implies_true, reduceCtorEq, false_implies, true_implies, decide_eq_true_eq, decide_eq_false_iff_not, beq_self_eq_true, Bool.not_eq_true', ne_eq, Decidable.not_not, List.nil_append, List.length_singleton, List.length_cons, List.length_nil, Nat.zero_add, Nat.add_zero, Nat.mul_one, and_self, beq_iff_eq, Bool.not_true, Bool.not_false, Bool.not_eq_false', Bool.cond_false_right, Bool.and_eq_true, imp_self, Bool.not_eq_true, Bool.cond_true_left, Bool.or_eq_true]
  rw [reasonK, Bool.and_assoc]
theorem h68 : c_ext_reason.ok Try.prog GL 68 := con_ok (H := {}) (mkEnv_ok (gl := GL) (l := []) (q := []) (d := []) _ tyOk (by kernel_rfl) trivial trivial trivial) (by kernel_rfl) (by kernel_rfl) (Eq.mp e68 k68)
def t27 : Prop :=
  ∀ (x : q1), (q127 x) -> True -> List.length [SV.dat q128 (List.getD x.1 (nat_lit 0) q80), SV.dat q128 (List.getD x.1 (nat_lit 1) q80), SV.dat q128 (List.getD x.1 (nat_lit 2) q80), SV.dat
  q128 (List.getD x.1 (nat_lit 3) q80), SV.dat q128 (List.getD x.1 (nat_lit 4) q80), SV.dat q128 (List.getD x.1 (nat_lit 5) q80), SV.dat q128 (List.getD x.1 (nat_lit 6) q80), SV.dat q128
  (List.getD x.1 (nat_lit 7) q80), SV.dat q128 (List.getD x.1 (nat_lit 8) q80), SV.dat q128 (List.getD x.1 (nat_lit 9) q80), SV.dat q128 (List.getD x.1 (nat_lit 10) q80), SV.dat q128
  (List.getD x.1 (nat_lit 11) q80), SV.dat q128 (List.getD x.1 (nat_lit 12) q80), SV.dat q128 (List.getD x.1 (nat_lit 13) q80), SV.dat q128 (List.getD x.1 (nat_lit 14) q80), SV.dat q128
  (List.getD x.1 (nat_lit 15) q80), SV.dat q128 (List.getD x.1 (nat_lit 16) q80), SV.dat q128 (List.getD x.1 (nat_lit 17) q80), SV.dat q128 (List.getD x.1 (nat_lit 18) q80), SV.dat q128
  (List.getD x.1 (nat_lit 19) q80)] <= q64 /\ List.length x.1 = q129 /\ (isTagD (4 : Int) = true /\ lenF [List.take q129 (List.drop q28 x.1)] <= q72) /\ (∀ (y : q1), (q27 y) -> y.1 = putB ((4
  : Int), List.flatten [List.take q129 (List.drop q28 x.1)]) -> y.1 = SubjectD x.1) /\ True
theorem e27 : t27 = Con.vc c_ext_Subject GL (mkEnv ty [(31, conSem c_ext_wrap)] [] [] [0, 1, 2]) {} Try.f27.ntmps Try.f27.results.toList (bodyOf Try.f27) := by kernel_rfl
theorem k27 : t27 := by
  unfold t27
  delta q1 q127 q128 q80 q64 q129 q28 q72 q27 q207 q221 wyZ
  rintro ⟨n, _⟩ hx hp
  have h20 : n.length = 20 := hx.1.1
  try dsimp +instances only [dft_int, dft_sl, dft_str]
  simp only [true_and, and_true, eq_self_iff_true, implies_true, reduceCtorEq, false_implies, true_implies, decide_eq_true_eq, decide_eq_false_iff_not, beq_self_eq_true, Bool.not_eq_true', ne_eq, Decidable.not_not, List.nil_append, List.length_singleton, List.length_cons, List.length_nil, Nat.zero_add, Nat.add_zero, Nat.mul_one, and_self, beq_iff_eq, Bool.not_true, Bool.not_false, Bool.not_eq_false', Bool.cond_false_right, Bool.and_eq_true, imp_self, Bool.not_eq_true, Bool.cond_true_left, Bool.or_eq_true]
  rw [take20 h20]
  refine ⟨by decide, h20, ⟨by decide, by simp [lenF]; omega⟩, ?_⟩
  rintro ⟨z, _⟩ _ ez
  simp only at ez ⊢
  rw [ez]; simp [SubjectD]
theorem h27 : c_ext_Subject.ok Try.prog GL 27 := con_ok (H := {}) (mkEnv_ok (gl := GL) (l := [(31, conSem c_ext_wrap)]) (q := []) (d := []) _ tyOk (by kernel_rfl) ⟨h31.call, trivial⟩ trivial trivial) (by kernel_rfl) (by kernel_rfl) (Eq.mp e27 k27)
def t34 : Prop :=
  ∀ (x : Int × List Int × Unit), (wiZ x.1 /\ wyZ x.2.1 /\ True) -> q21 <= x.1 /\ x.1 <= q18 /\ lenB x.2.1 <= q72 -> (lenB x.2.1 <= q72 /\ q21 <= x.1 /\ x.1 <= q18) /\ (∀ (y : q1), (q27 y) ->
  y.1 = putB (x.1, x.2.1) -> y.1 = putB (x.1, x.2.1)) /\ True
theorem e34 : t34 = Con.vc c_r15_Put GL (mkEnv ty [(80, conSem c_r01_Bytes)] [] [] [0, 1, 4]) {} Try.f34.ntmps Try.f34.results.toList (bodyOf Try.f34) := by kernel_rfl
theorem k34 : t34 := by
  unfold t34
  delta wiZ wyZ q21 q18 q72 q1 q27
  rintro ⟨t, c, _⟩ hx hp
  try dsimp +instances only [dft_int, dft_sl, dft_str]
  simp only [true_and, and_true, eq_self_iff_true, implies_true, reduceCtorEq, false_implies, true_implies, decide_eq_true_eq, decide_eq_false_iff_not, beq_self_eq_true, Bool.not_eq_true', ne_eq, Decidable.not_not, List.nil_append, List.length_singleton, List.length_cons, List.length_nil, Nat.zero_add, Nat.add_zero, Nat.mul_one, and_self, beq_iff_eq, Bool.not_true, Bool.not_false, Bool.not_eq_false', Bool.cond_false_right, Bool.and_eq_true, imp_self, Bool.not_eq_true, Bool.cond_true_left, Bool.or_eq_true]
  exact ⟨hp.2.2, hp.1, hp.2.1⟩
theorem h34 : c_r15_Put.ok Try.prog GL 34 := con_ok (H := {}) (mkEnv_ok (gl := GL) (l := [(80, conSem c_r01_Bytes)]) (q := []) (d := []) _ tyOk (by kernel_rfl) ⟨h80.call, trivial⟩ trivial trivial) (by kernel_rfl) (by kernel_rfl) (Eq.mp e34 k34)
def t56 : Prop :=
  ∀ (x : (Bool × Int) × Unit), (Kd.wf (Kd.pair Kd.bool (Kd.int IntKind.i64)) x.1 /\ True) -> True -> List.length [SV.dat Kd.bool x.1.1, SV.dat (Kd.int IntKind.i64) x.1.2] <= q64 /\ (decide
  (x.1.2 < q219) = false -> True) /\ (decide (x.1.2 < q219) = false -> (decide (x.1.2 < q219) == false) = true /\ True) /\ (decide (x.1.2 < q219) = false -> (decide (x.1.2 < q219) == false) =
  true /\ True) /\ (decide (x.1.2 < q219) = false -> (decide (x.1.2 < q219) == false) = true) /\ ((q135 x) = false -> True) /\ (q131 x) /\ (q131 x) /\ ((q135 x) = false -> True) /\ ((q132 x)
  = true -> decide (x.1.2 ≠ q219) = true -> True) /\ (q130 x) /\ (q130 x) /\ ((q135 x) = false -> (q132 x) = true /\ (decide (x.1.2 ≠ q219) = true -> (q187 x) = true) /\ True) /\ ((q135 x) =
  false -> ((q188 x) == false) = true) /\ ((q133 x) = true -> ([], q136) = BasicD x.1) /\ ((q133 x) = false -> (x.1.1 = true -> True /\ (∀ (y : q1), (q27 y) -> y.1 = BoolD true -> (q21 <= q37
  /\ q37 <= q18 /\ lenB y.1 <= q72) /\ (∀ (y_1 : q1), (q27 y_1) -> y_1.1 = putB (q37, y.1) -> q28 < q29 /\ (q28 + List.length y_1.1) * q29 <= q25 /\ q28 + List.length y_1.1 <= q24 /\ (decide
  (x.1.2 ≠ q219) = true -> True /\ (∀ (y : q1), (q27 y) -> y.1 = IntD x.1.2 -> (q134 y) /\ (∀ (y_2 : q1), (q27 y_2) -> y_2.1 = putB (q23, y.1) -> q28 < q29 /\ (List.length ([] ++ y_1.1) +
  List.length y_2.1) * q29 <= q25 /\ List.length ([] ++ y_1.1) + List.length y_2.1 <= q24 /\ (q21 <= (48 : Int) /\ (48 : Int) <= q18 /\ lenB ([] ++ y_1.1 ++ y_2.1) <= q72) /\ (∀ (y : q1),
  (q27 y) -> y.1 = putB ((48 : Int), [] ++ y_1.1 ++ y_2.1) -> (y.1, q21) = BasicD x.1) /\ True) /\ True) /\ True) /\ (decide (x.1.2 ≠ q219) = false -> (q21 <= (48 : Int) /\ (48 : Int) <= q18
  /\ lenB ([] ++ y_1.1) <= q72) /\ (∀ (y : q1), (q27 y) -> y.1 = putB ((48 : Int), [] ++ y_1.1) -> (y.1, q21) = BasicD x.1) /\ True)) /\ True) /\ True) /\ (x.1.1 = false -> (decide (x.1.2 ≠
  q219) = true -> True /\ (∀ (y : q1), (q27 y) -> y.1 = IntD x.1.2 -> (q134 y) /\ (∀ (y_1 : q1), (q27 y_1) -> y_1.1 = putB (q23, y.1) -> q28 < q29 /\ (q28 + List.length y_1.1) * q29 <= q25 /\
  q28 + List.length y_1.1 <= q24 /\ (q21 <= (48 : Int) /\ (48 : Int) <= q18 /\ lenB ([] ++ y_1.1) <= q72) /\ (∀ (y : q1), (q27 y) -> y.1 = putB ((48 : Int), [] ++ y_1.1) -> (y.1, q21) =
  BasicD x.1) /\ True) /\ True) /\ True) /\ (decide (x.1.2 ≠ q219) = false -> (q21 <= (48 : Int) /\ (48 : Int) <= q18 /\ q28 <= q72) /\ (∀ (y : q1), (q27 y) -> y.1 = putB ((48 : Int), []) ->
  (y.1, q21) = BasicD x.1) /\ True)))
theorem e56 : t56 = Con.vc c_r15_Basic GL (mkEnv ty [(35, conSem c_r02_Bool), (92, conSem c_r02_Int), (34, conSem c_r15_Put)] [] [] [0, 1, 2, 3, 4, 22, 24, 31]) {} Try.f56.ntmps Try.f56.results.toList (bodyOf Try.f56) := by kernel_rfl
theorem k56 : t56 := by
  unfold t56
  delta q64 q219 q135 q131 q132 q130 q187 q188 q133 q136 q1 q27 q21 q37 q18 q72 q28 q29 q25 q24 q134 q23 wyZ q179
  rintro ⟨⟨c, n⟩, _⟩ hx hp
  try dsimp +instances only [dft_int, dft_sl, dft_str]
  simp only [true_and, and_true, eq_self_iff_true, implies_true, reduceCtorEq, false_implies, true_implies, decide_eq_true_eq, decide_eq_false_iff_not, beq_self_eq_true, Bool.not_eq_true', ne_eq, Decidable.not_not, List.nil_append, List.length_singleton, List.length_cons, List.length_nil, Nat.zero_add, Nat.add_zero, Nat.mul_one, and_self, beq_iff_eq, Bool.not_true, Bool.not_false, Bool.not_eq_false', Bool.cond_false_right, Bool.and_eq_true, imp_self, Bool.not_eq_true, Bool.cond_true_left, Bool.or_eq_true]
  have hi := int_len n
  refine ⟨by decide, fun a b => ⟨a, b⟩, fun a b => ⟨a, b⟩, fun a => ⟨a, fun b => ⟨a, b⟩⟩, fun h => (basic_no (h.imp id fun x => ⟨x.2, x.1⟩)).symm, fun h => ?_⟩
  have h1 : ¬ (n < -1 ∨ 100 < n) ∧ ¬ (c = false ∧ n ≠ -1) := by cases c <;> simp at h ⊢ <;> omega
  have hm := basic_ok h1.1 h1.2
  have hcl := ca_len c
  have hpl := path_len n
  rw [hm]
  refine ⟨fun hc => ?_, fun hc => ?_⟩
  . rintro ⟨v, _⟩ _ ev
    simp only at ev ⊢
    refine ⟨⟨by decide, by decide, by rw [ev]; simp [lenB, BoolD]⟩, ?_⟩
    rintro ⟨w, _⟩ _ ew
    simp only at ew ⊢
    have hca : w = caB c := by rw [ew, ev, hc]; rfl
    have hwl : w.length ≤ 3 := by rw [hca]; exact hcl
    refine ⟨by decide, by omega, by omega, fun h0 => ?_, fun h0 => ?_⟩
    . rintro ⟨u, _⟩ _ eu
      simp only at eu ⊢
      refine ⟨⟨by decide, by decide, by rw [eu, lenB]; omega⟩, ?_⟩
      rintro ⟨q, _⟩ _ eq
      simp only at eq ⊢
      have hpa : q = pathB n := by rw [eq, eu, pathB, if_neg h0]
      have hql : q.length ≤ 10 := by rw [hpa]; exact hpl
      refine ⟨by decide, by omega, by omega, ⟨by decide, by decide, by rw [lenB, List.length_append]; omega⟩, ?_⟩
      rintro ⟨z, _⟩ _ ez
      simp only at ez ⊢
      rw [ez, hca, hpa]
    . have hpa : pathB n = [] := by rw [pathB, if_pos h0]
      refine ⟨⟨by decide, by decide, by rw [lenB]; omega⟩, ?_⟩
      rintro ⟨z, _⟩ _ ez
      simp only at ez ⊢
      rw [ez, hca, hpa, List.append_nil]
  . have hn : n = -1 := by
      by_cases e : n = -1
      . exact e
      . exact absurd ⟨hc, e⟩ h1.2
    refine ⟨fun h0 => absurd hn h0, fun h0 => ⟨⟨by decide, by decide, by decide⟩, ?_⟩⟩
    rintro ⟨z, _⟩ _ ez
    simp only at ez ⊢
    rw [ez, pathB, if_pos hn, hc]; rfl
theorem h56 : c_r15_Basic.ok Try.prog GL 56 := con_ok (H := {}) (mkEnv_ok (gl := GL) (l := [(35, conSem c_r02_Bool), (92, conSem c_r02_Int), (34, conSem c_r15_Put)]) (q := []) (d := []) _ tyOk (by kernel_rfl) ⟨h35.call, h92.call, h34.call, trivial⟩ trivial trivial) (by kernel_rfl) (by kernel_rfl) (Eq.mp e56 k56)
def t61 : Prop :=
  ∀ (x : q0), (Kd.wf q88 x.1 /\ True) -> True -> (decide (x.1 = q21) = false -> True) /\ (decide (x.1 = q21) = false -> (decide (x.1 = q21) == false) = true /\ True) /\ (decide (x.1 = q21) =
  false -> (decide (x.1 = q21) == false) = true) /\ ((bif decide (x.1 = q21) then true else decide ((511 : Int) < x.1)) = true -> ([], q136) = UsageD x.1) /\ ((bif decide (x.1 = q21) then
  true else decide ((511 : Int) < x.1)) = false -> True /\ (∀ (y : q1), (q27 y) -> y.1 = FlagsD (Int.toNat x.1) -> (q21 <= (3 : Int) /\ (3 : Int) <= q18 /\ lenB y.1 <= q72) /\ (∀ (y_1 : q1),
  (q27 y_1) -> y_1.1 = putB ((3 : Int), y.1) -> (y_1.1, q21) = UsageD x.1) /\ True) /\ True)
theorem e61 : t61 = Con.vc c_r15_Usage GL (mkEnv ty [(97, conSem c_r02_Flags), (34, conSem c_r15_Put)] [] [] [0, 2, 3, 9]) {} Try.f61.ntmps Try.f61.results.toList (bodyOf Try.f61) := by kernel_rfl
theorem k61 : t61 := by
  unfold t61
  delta q0 q88 q21 q136 q1 q27 q18 q72 wyZ
  rintro ⟨n, _⟩ hx hp
  try dsimp +instances only [dft_int, dft_sl, dft_str]
  simp only [true_and, and_true, eq_self_iff_true, implies_true, reduceCtorEq, false_implies, true_implies, decide_eq_true_eq, decide_eq_false_iff_not, beq_self_eq_true, Bool.not_eq_true', ne_eq, Decidable.not_not, List.nil_append, List.length_singleton, List.length_cons, List.length_nil, Nat.zero_add, Nat.add_zero, Nat.mul_one, and_self, beq_iff_eq, Bool.not_true, Bool.not_false, Bool.not_eq_false', Bool.cond_false_right, Bool.and_eq_true, imp_self, Bool.not_eq_true, Bool.cond_true_left, Bool.or_eq_true]
  have hl := flags_len n.toNat
  refine ⟨fun h => by rw [UsageD, if_pos h], fun h => ?_⟩
  have h1 : ¬ (n = 0 ∨ 511 < n) := by simp at h; omega
  rintro ⟨u, _⟩ _ eu
  simp only at eu ⊢
  refine ⟨⟨by decide, by decide, by rw [eu, lenB]; omega⟩, ?_⟩
  rintro ⟨z, _⟩ _ ez
  simp only at ez ⊢
  rw [ez, eu, UsageD, if_neg h1]
theorem h61 : c_r15_Usage.ok Try.prog GL 61 := con_ok (H := {}) (mkEnv_ok (gl := GL) (l := [(97, conSem c_r02_Flags), (34, conSem c_r15_Put)]) (q := []) (d := []) _ tyOk (by kernel_rfl) ⟨h97.call, h34.call, trivial⟩ trivial trivial) (by kernel_rfl) (by kernel_rfl) (Eq.mp e61 k61)
def t66 : Prop :=
  ∀ (x : q0), (q17 x) -> True -> (decide (x.1 < q179) = true -> ([], q136) = NumberD x.1) /\ (decide (x.1 < q179) = false -> True /\ (∀ (y : q1), (q27 y) -> y.1 = IntD x.1 -> (q134 y) /\ (∀
  (y_1 : q1), (q27 y_1) -> y_1.1 = putB (q23, y.1) -> (y_1.1, q21) = NumberD x.1) /\ True) /\ True)
theorem e66 : t66 = Con.vc c_r15_Number GL (mkEnv ty [(92, conSem c_r02_Int), (34, conSem c_r15_Put)] [] [] [0, 2, 3, 5]) {} Try.f66.ntmps Try.f66.results.toList (bodyOf Try.f66) := by kernel_rfl
theorem k66 : t66 := by
  unfold t66
  delta q0 q17 q179 q136 q1 q27 q134 q23 q21 wiZ wyZ
  rintro ⟨n, _⟩ hx hp
  try dsimp +instances only [dft_int, dft_sl, dft_str]
  simp only [true_and, and_true, eq_self_iff_true, implies_true, reduceCtorEq, false_implies, true_implies, decide_eq_true_eq, decide_eq_false_iff_not, beq_self_eq_true, Bool.not_eq_true', ne_eq, Decidable.not_not, List.nil_append, List.length_singleton, List.length_cons, List.length_nil, Nat.zero_add, Nat.add_zero, Nat.mul_one, and_self, beq_iff_eq, Bool.not_true, Bool.not_false, Bool.not_eq_false', Bool.cond_false_right, Bool.and_eq_true, imp_self, Bool.not_eq_true, Bool.cond_true_left, Bool.or_eq_true]
  have hl := int_len n
  refine ⟨fun h => by rw [NumberD, if_pos h], fun h => ?_⟩
  rintro ⟨u, _⟩ _ eu
  simp only at eu ⊢
  refine ⟨⟨by decide, by decide, by rw [eu, lenB]; omega⟩, ?_⟩
  rintro ⟨z, _⟩ _ ez
  simp only at ez ⊢
  rw [ez, eu, NumberD, if_neg h]
theorem h66 : c_r15_Number.ok Try.prog GL 66 := con_ok (H := {}) (mkEnv_ok (gl := GL) (l := [(92, conSem c_r02_Int), (34, conSem c_r15_Put)]) (q := []) (d := []) _ tyOk (by kernel_rfl) ⟨h92.call, h34.call, trivial⟩ trivial trivial) (by kernel_rfl) (by kernel_rfl) (Eq.mp e66 k66)
def t69 : Prop :=
  ∀ (x : q0), (q17 x) -> True -> (decide (x.1 < q179) = false -> True) /\ (decide (x.1 < q179) = false -> (decide (x.1 < q179) == false) = true /\ True) /\ (decide (x.1 < q179) = false ->
  (decide (x.1 < q179) == false) = true) /\ ((q138 x) = false -> True) /\ ((q138 x) = false -> ((q138 x) == false) = true /\ True) /\ ((q138 x) = false -> ((q138 x) == false) = true) /\
  ((q137 x) = true -> ([], q136) = ReasonD x.1) /\ ((q137 x) = false -> True /\ (∀ (y : q1), (q27 y) -> y.1 = IntD x.1 -> (q21 <= q61 /\ q61 <= q18 /\ lenB y.1 <= q72) /\ (∀ (y_1 : q1), (q27
  y_1) -> y_1.1 = putB (q61, y.1) -> (y_1.1, q21) = ReasonD x.1) /\ True) /\ True)
theorem e69 : t69 = Con.vc c_r15_Reason GL (mkEnv ty [(92, conSem c_r02_Int), (34, conSem c_r15_Put)] [] [] [0, 2, 3, 13]) {} Try.f69.ntmps Try.f69.results.toList (bodyOf Try.f69) := by kernel_rfl
theorem k69 : t69 := by
  unfold t69
  delta q0 q17 q179 q138 q137 q136 q1 q27 q21 q61 q18 q72 wiZ wyZ
  rintro ⟨n, _⟩ hx hp
  try dsimp +instances only [dft_int, dft_sl, dft_str]
  simp only [true_and, and_true, eq_self_iff_true, implies_true, reduceCtorEq, false_implies, true_implies, decide_eq_true_eq, decide_eq_false_iff_not, beq_self_eq_true, Bool.not_eq_true', ne_eq, Decidable.not_not, List.nil_append, List.length_singleton, List.length_cons, List.length_nil, Nat.zero_add, Nat.add_zero, Nat.mul_one, and_self, beq_iff_eq, Bool.not_true, Bool.not_false, Bool.not_eq_false', Bool.cond_false_right, Bool.and_eq_true, imp_self, Bool.not_eq_true, Bool.cond_true_left, Bool.or_eq_true]
  have hl := int_len n
  have hk : reasonK n = true ↔ ¬ ((n < 0 ∨ 10 < n) ∨ n = 7) := by simp [reasonK]; omega
  refine ⟨fun h => by rw [ReasonD, if_pos (by cases e : reasonK n; rfl; exact absurd h (hk.1 e))], fun h => ?_⟩
  have h1 : reasonK n = true := hk.2 (by simp at h; omega)
  rintro ⟨u, _⟩ _ eu
  simp only at eu ⊢
  refine ⟨⟨by decide, by decide, by rw [eu, lenB]; omega⟩, ?_⟩
  rintro ⟨z, _⟩ _ ez
  simp only at ez ⊢
  rw [ez, eu, ReasonD, if_neg (by rw [h1]; decide)]
theorem h69 : c_r15_Reason.ok Try.prog GL 69 := con_ok (H := {}) (mkEnv_ok (gl := GL) (l := [(92, conSem c_r02_Int), (34, conSem c_r15_Put)]) (q := []) (d := []) _ tyOk (by kernel_rfl) ⟨h92.call, h34.call, trivial⟩ trivial trivial) (by kernel_rfl) (by kernel_rfl) (Eq.mp e69 k69)
def t28 : Prop :=
  ∀ (x : q1), (q127 x) -> True -> List.length [SV.dat q128 (List.getD x.1 (nat_lit 0) q80), SV.dat q128 (List.getD x.1 (nat_lit 1) q80), SV.dat q128 (List.getD x.1 (nat_lit 2) q80), SV.dat
  q128 (List.getD x.1 (nat_lit 3) q80), SV.dat q128 (List.getD x.1 (nat_lit 4) q80), SV.dat q128 (List.getD x.1 (nat_lit 5) q80), SV.dat q128 (List.getD x.1 (nat_lit 6) q80), SV.dat q128
  (List.getD x.1 (nat_lit 7) q80), SV.dat q128 (List.getD x.1 (nat_lit 8) q80), SV.dat q128 (List.getD x.1 (nat_lit 9) q80), SV.dat q128 (List.getD x.1 (nat_lit 10) q80), SV.dat q128
  (List.getD x.1 (nat_lit 11) q80), SV.dat q128 (List.getD x.1 (nat_lit 12) q80), SV.dat q128 (List.getD x.1 (nat_lit 13) q80), SV.dat q128 (List.getD x.1 (nat_lit 14) q80), SV.dat q128
  (List.getD x.1 (nat_lit 15) q80), SV.dat q128 (List.getD x.1 (nat_lit 16) q80), SV.dat q128 (List.getD x.1 (nat_lit 17) q80), SV.dat q128 (List.getD x.1 (nat_lit 18) q80), SV.dat q128
  (List.getD x.1 (nat_lit 19) q80)] <= q64 /\ List.length x.1 = q129 /\ (q21 <= (4 : Int) /\ (4 : Int) <= q18 /\ lenB (List.take q129 (List.drop q28 x.1)) <= q72) /\ (∀ (y : q1), (q27 y) ->
  y.1 = putB ((4 : Int), List.take q129 (List.drop q28 x.1)) -> y.1 = SubjectD x.1) /\ True
theorem e28 : t28 = Con.vc c_r15_Subject GL (mkEnv ty [(34, conSem c_r15_Put)] [] [] [0, 1, 2]) {} Try.f28.ntmps Try.f28.results.toList (bodyOf Try.f28) := by kernel_rfl
theorem k28 : t28 := by
  unfold t28
  delta q1 q127 q128 q80 q64 q129 q21 q18 q28 q72 q27 q207 q221 wyZ
  rintro ⟨n, _⟩ hx hp
  have h20 : n.length = 20 := hx.1.1
  try dsimp +instances only [dft_int, dft_sl, dft_str]
  simp only [true_and, and_true, eq_self_iff_true, implies_true, reduceCtorEq, false_implies, true_implies, decide_eq_true_eq, decide_eq_false_iff_not, beq_self_eq_true, Bool.not_eq_true', ne_eq, Decidable.not_not, List.nil_append, List.length_singleton, List.length_cons, List.length_nil, Nat.zero_add, Nat.add_zero, Nat.mul_one, and_self, beq_iff_eq, Bool.not_true, Bool.not_false, Bool.not_eq_false', Bool.cond_false_right, Bool.and_eq_true, imp_self, Bool.not_eq_true, Bool.cond_true_left, Bool.or_eq_true]
  rw [take20 h20]
  refine ⟨by decide, h20, ⟨by decide, by decide, by rw [lenB]; omega⟩, ?_⟩
  rintro ⟨z, _⟩ _ ez
  simp only at ez ⊢
  rw [ez]; rfl
theorem h28 : c_r15_Subject.ok Try.prog GL 28 := con_ok (H := {}) (mkEnv_ok (gl := GL) (l := [(34, conSem c_r15_Put)]) (q := []) (d := []) _ tyOk (by kernel_rfl) ⟨h34.call, trivial⟩ trivial trivial) (by kernel_rfl) (by kernel_rfl) (Eq.mp e28 k28)
def t73 : Prop :=
  ∀ (x : q1), (q127 x) -> True -> List.length [SV.dat q128 (List.getD x.1 (nat_lit 0) q80), SV.dat q128 (List.getD x.1 (nat_lit 1) q80), SV.dat q128 (List.getD x.1 (nat_lit 2) q80), SV.dat
  q128 (List.getD x.1 (nat_lit 3) q80), SV.dat q128 (List.getD x.1 (nat_lit 4) q80), SV.dat q128 (List.getD x.1 (nat_lit 5) q80), SV.dat q128 (List.getD x.1 (nat_lit 6) q80), SV.dat q128
  (List.getD x.1 (nat_lit 7) q80), SV.dat q128 (List.getD x.1 (nat_lit 8) q80), SV.dat q128 (List.getD x.1 (nat_lit 9) q80), SV.dat q128 (List.getD x.1 (nat_lit 10) q80), SV.dat q128
  (List.getD x.1 (nat_lit 11) q80), SV.dat q128 (List.getD x.1 (nat_lit 12) q80), SV.dat q128 (List.getD x.1 (nat_lit 13) q80), SV.dat q128 (List.getD x.1 (nat_lit 14) q80), SV.dat q128
  (List.getD x.1 (nat_lit 15) q80), SV.dat q128 (List.getD x.1 (nat_lit 16) q80), SV.dat q128 (List.getD x.1 (nat_lit 17) q80), SV.dat q128 (List.getD x.1 (nat_lit 18) q80), SV.dat q128
  (List.getD x.1 (nat_lit 19) q80)] <= q64 /\ List.length x.1 = q129 /\ (q21 <= q19 /\ q19 <= q18 /\ lenB (List.take q129 (List.drop q28 x.1)) <= q72) /\ (∀ (y : q1), (q27 y) -> y.1 = putB
  (q19, List.take q129 (List.drop q28 x.1)) -> (q21 <= (48 : Int) /\ (48 : Int) <= q18 /\ lenB y.1 <= q72) /\ (∀ (y_1 : q1), (q27 y_1) -> y_1.1 = putB ((48 : Int), y.1) -> y_1.1 = IssuerD
  x.1) /\ True) /\ True
theorem e73 : t73 = Con.vc c_r15_Issuer GL (mkEnv ty [(34, conSem c_r15_Put)] [] [] [0, 1, 2]) {} Try.f73.ntmps Try.f73.results.toList (bodyOf Try.f73) := by kernel_rfl
theorem k73 : t73 := by
  unfold t73
  delta q1 q127 q128 q80 q64 q129 q21 q19 q18 q28 q72 q27 q207 q221 wyZ
  rintro ⟨n, _⟩ hx hp
  have h20 : n.length = 20 := hx.1.1
  have hl : (putB (128, n)).length = 22 := by rw [put_small (x := (128, n)) (by simp only; omega)]; simp only; omega
  try dsimp +instances only [dft_int, dft_sl, dft_str]
  simp only [true_and, and_true, eq_self_iff_true, implies_true, reduceCtorEq, false_implies, true_implies, decide_eq_true_eq, decide_eq_false_iff_not, beq_self_eq_true, Bool.not_eq_true', ne_eq, Decidable.not_not, List.nil_append, List.length_singleton, List.length_cons, List.length_nil, Nat.zero_add, Nat.add_zero, Nat.mul_one, and_self, beq_iff_eq, Bool.not_true, Bool.not_false, Bool.not_eq_false', Bool.cond_false_right, Bool.and_eq_true, imp_self, Bool.not_eq_true, Bool.cond_true_left, Bool.or_eq_true]
  rw [take20 h20]
  refine ⟨by decide, h20, ⟨by decide, by decide, by rw [lenB]; omega⟩, ?_⟩
  rintro ⟨y, _⟩ _ ey
  simp only at ey ⊢
  refine ⟨⟨by decide, by decide, by rw [ey, lenB]; omega⟩, ?_⟩
  rintro ⟨z, _⟩ _ ez
  simp only at ez ⊢
  rw [ez, ey]; rfl
theorem h73 : c_r15_Issuer.ok Try.prog GL 73 := con_ok (H := {}) (mkEnv_ok (gl := GL) (l := [(34, conSem c_r15_Put)]) (q := []) (d := []) _ tyOk (by kernel_rfl) ⟨h34.call, trivial⟩ trivial trivial) (by kernel_rfl) (by kernel_rfl) (Eq.mp e73 k73)
end Go.Proofs.Ytiofbnlbfmbodaa
end
