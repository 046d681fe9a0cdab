/- Texts of a verified walk, led together: Ext1A, Ext1W. -/
import Derived.Test.YtiofbnlbfmbodaaGreatDoorZW11
import Derived.Test.YtiofbnlbfmbodaaGreatDoorZV18
set_option linter.unusedVariables false
set_option linter.unusedSimpArgs false
section
namespace Go.Proofs.YtiofbnlbfmbodaaGreatDoor
open Go Go.Vc Go.Pl Go.Proofs
def c_ext_wrap : Con := { args := [.dat I64, .dat (.sl BY)], res := [.own 5 U8], pre := fun x => isTagD x.1 = true ∧ lenF x.2.1 ≤ 16777215, post := fun x y => y.1 = putB (x.1, x.2.1.flatten) }
def c_ext_Basic : Con := { args := [.dat (.pair .bool I64)], res := [.own 5 U8, .dat I64], pre := fun _ => True, post := fun x y => (y.1, y.2.1) = BasicD x.1 }
def c_ext_Usage : Con := { args := [.dat (.int .u16)], res := [.own 5 U8, .dat I64], pre := fun _ => True, post := fun x y => (y.1, y.2.1) = UsageD x.1 }
def c_ext_Number : Con := { args := [.dat I64], res := [.own 5 U8, .dat I64], pre := fun _ => True, post := fun x y => (y.1, y.2.1) = NumberD x.1 }
def c_ext_reason : Con := { args := [.dat I64], res := [.dat .bool], pre := fun _ => True, post := fun x y => y.1 = reasonK x.1 }
def c_ext_Reason : Con := { args := [.dat I64], res := [.own 5 U8, .dat I64], pre := fun _ => True, post := fun x y => (y.1, y.2.1) = ReasonD x.1 }
def c_ext_Subject : Con := { args := [.dat (.arr 20 U8)], res := [.own 5 U8], pre := fun _ => True, post := fun x y => y.1 = SubjectD x.1 }
def c_ext_Issuer : Con := { args := [.dat (.arr 20 U8)], res := [.own 5 U8], pre := fun _ => True, post := fun x y => y.1 = IssuerD x.1 }
end Go.Proofs.YtiofbnlbfmbodaaGreatDoor
end
section
namespace Go.Proofs.YtiofbnlbfmbodaaGreatDoor
open Go Go.Vc Go.Pl Go.Proofs
set_option linter.unusedVariables false
set_option linter.unusedSimpArgs false
theorem basic_ok {c : Bool} {n : Int} (h : ¬ (n < -1 ∨ 100 < n)) (hc : ¬ (c = false ∧ n ≠ -1)) : BasicD (c, n) = (putB (48, caB c ++ pathB n), 0) := by
  rw [BasicD, if_neg]
  rintro (h' | h' | h')
  . exact h (.inl h')
  . exact h (.inr h')
  . exact hc h'
theorem basic_no {c : Bool} {n : Int} (h : (n < -1 ∨ 100 < n) ∨ (c = false ∧ n ≠ -1)) : BasicD (c, n) = ([], 150) := by
  rw [BasicD, if_pos]
  rcases h with (h | h) | h
  . exact .inl h
  . exact .inr (.inl h)
  . exact .inr (.inr h)
theorem take20 {n : List Int} (h : n.length = 20) : List.take 20 (List.drop 0 n) = n := by rw [List.drop_zero, List.take_of_length_le (by omega)]
abbrev q257 := (16777215 : Nat)
abbrev q363 (p0 : (Bool × Int) × Unit) := (bif decide (p0.1.2 < (-1 : Int)) then true else decide ((100 : Int) < p0.1.2))
abbrev q362 (p0 : (Bool × Int) × Unit) := ((bif decide (p0.1.2 < (-1 : Int)) then true else decide ((100 : Int) < p0.1.2)) == false && (bif decide (p0.1.2 < (-1 : Int)) then true else
  decide ((100 : Int) < p0.1.2)) == false && (!p0.1.1) == true)
abbrev q258 (p0 : (Bool × Int) × Unit) := (((q363 p0) == false && (q363 p0) == false) = true -> (!p0.1.1) = true -> (q362 p0) = true /\ True)
abbrev q259 (p0 : (Bool × Int) × Unit) := ((q363 p0) = false -> ((q363 p0) == false) = true /\ True)
abbrev q260 (p0 : (Bool × Int) × Unit) := ((q363 p0) == false && (q363 p0) == false)
abbrev q261 (p0 : (Bool × Int) × Unit) := (bif bif decide (p0.1.2 < (-1 : Int)) then true else decide ((100 : Int) < p0.1.2) then true else bif !p0.1.1 then decide (p0.1.2 ≠ (-1 : Int))
  else false)
abbrev q262 (p0 : (Bool × Int) × Unit) := (bif decide (p0.1.2 < (-1 : Int)) then true else decide ((100 : Int) < p0.1.2))
abbrev q263 := (150 : Int)
abbrev q264 (p0 : q1) := (bif decide (q332 <= p0.1) then decide (p0.1 <= (10 : Int)) else false)
abbrev q265 (p0 : q5) := (Kd.wf (Kd.arr (20 : Nat) q371) p0.1 /\ True)
abbrev q266 := (20 : Nat)
abbrev q364 := (16777215 : Nat)
def t43 : Prop :=
  ∀ (x : Int × List (List Int) × Unit), (wiZ x.1 /\ Kd.wf q341 x.2.1 /\ True) -> isTagD x.1 = true /\ lenF x.2.1 <= q257 -> lenB [] <= (900000000 : Nat) /\ (∀ (y : q0), (q135 y) -> (y.1,
  y.2.1) = PutD [] x.1 (List.flatten x.2.1) -> y.1 = putB (x.1, List.flatten x.2.1)) /\ True
theorem e43 : t43 = Con.vc c_ext_wrap GL (mkEnv ty [(95, conSem c_der_Put)] [] [] [0, 1, 4, 5]) {} Tryz.f43.ntmps Tryz.f43.results.toList (bodyOf Tryz.f43) := by kernel_rfl
theorem k43 : t43 := by
  unfold t43
  delta wiZ q341 q257 q0 q135 q451 wyZ
  rintro ⟨t, cs, _⟩ hx hp
  obtain ⟨h1, h2⟩ := hp
  simp only [lenF] at h1 h2
  try dsimp +instances only [dft_int, dft_sl, dft_str]
  simp only [true_and, and_true, eq_self_iff_true, implies_true, reduceCtorEq, false_implies, true_implies, decide_eq_true_eq, decide_eq_false_iff_not, beq_self_eq_true, Bool.not_eq_true', ne_eq, Decidable.not_not, List.nil_append, List.length_singleton, List.length_cons, List.length_nil, Nat.zero_add, Nat.add_zero, Nat.mul_one, and_self, beq_iff_eq, Bool.not_true, Bool.not_false, Bool.not_eq_false', Bool.cond_false_right, Bool.and_eq_true, imp_self, Bool.not_eq_true, Bool.cond_true_left, Bool.or_eq_true]
  refine ⟨by simp [lenB], ?_⟩
  rintro ⟨y, e, _⟩ _ h
  simp only at h ⊢
  rw [put_nil t _ h1 h2] at h
  exact (Prod.mk.inj h).1
theorem h43 : c_ext_wrap.ok Tryz.prog GL 43 := con_ok (H := {}) (mkEnv_ok (gl := GL) (l := [(95, conSem c_der_Put)]) (q := []) (d := []) _ tyOk (by kernel_rfl) ⟨h95.call, trivial⟩ trivial trivial) (by kernel_rfl) (by kernel_rfl) (Eq.mp e43 k43)
def t29 : Prop :=
  ∀ (x : (Bool × Int) × Unit), (Kd.wf (Kd.pair Kd.bool q90) x.1 /\ True) -> True -> List.length [SV.dat Kd.bool x.1.1, SV.dat q90 x.1.2] <= q61 /\ (decide (x.1.2 < (-1 : Int)) = false ->
  True) /\ (decide (x.1.2 < (-1 : Int)) = false -> (decide (x.1.2 < (-1 : Int)) == false) = true /\ True) /\ (decide (x.1.2 < (-1 : Int)) = false -> (decide (x.1.2 < (-1 : Int)) == false) =
  true /\ True) /\ (decide (x.1.2 < (-1 : Int)) = false -> (decide (x.1.2 < (-1 : Int)) == false) = true) /\ ((q262 x) = false -> True) /\ (q259 x) /\ (q259 x) /\ ((q262 x) = false -> True)
  /\ ((q260 x) = true -> (!x.1.1) = true -> True) /\ (q258 x) /\ (q258 x) /\ ((q262 x) = false -> (q260 x) = true /\ ((!x.1.1) = true -> (q362 x) = true) /\ True) /\ ((q262 x) = false ->
  ((q363 x) == false) = true) /\ ((q261 x) = true -> ([], q263) = BasicD x.1) /\ ((q261 x) = false -> (x.1.1 = true -> True /\ (∀ (y : q5), (q96 y) -> y.1 = BoolD true -> (isTagD q62 = true
  /\ lenF [y.1] <= q257) /\ (∀ (y_1 : q5), (q96 y_1) -> y_1.1 = putB (q62, List.flatten [y.1]) -> (decide (q34 <= x.1.2) = true -> True /\ (∀ (y : q5), (q96 y) -> y.1 = IntD x.1.2 -> (isTagD
  q67 = true /\ lenF [y.1] <= q257) /\ (∀ (y_2 : q5), (q96 y_2) -> y_2.1 = putB (q67, List.flatten [y.1]) -> (isTagD (48 : Int) = true /\ lenF [y_1.1, y_2.1] <= q364) /\ (∀ (y : q5), (q96 y)
  -> y.1 = putB (q73, List.flatten [y_1.1, y_2.1]) -> (y.1, q34) = BasicD x.1) /\ True) /\ True) /\ True) /\ (decide (q34 <= x.1.2) = false -> (isTagD q73 = true /\ lenF [y_1.1, []] <= q257)
  /\ (∀ (y : q5), (q96 y) -> y.1 = putB (q73, List.flatten [y_1.1, []]) -> (y.1, q34) = BasicD x.1) /\ True)) /\ True) /\ True) /\ (x.1.1 = false -> (decide (q34 <= x.1.2) = true -> True /\
  (∀ (y : q5), (q96 y) -> y.1 = IntD x.1.2 -> (isTagD q67 = true /\ lenF [y.1] <= q257) /\ (∀ (y_1 : q5), (q96 y_1) -> y_1.1 = putB (q67, List.flatten [y.1]) -> (isTagD q73 = true /\ lenF
  [[], y_1.1] <= q257) /\ (∀ (y : q5), (q96 y) -> y.1 = putB (q73, List.flatten [[], y_1.1]) -> (y.1, q34) = BasicD x.1) /\ True) /\ True) /\ True) /\ (decide (q34 <= x.1.2) = false ->
  (isTagD q73 = true /\ q63 <= q257) /\ (∀ (y : q5), (q96 y) -> y.1 = putB (q73, List.flatten [[], []]) -> (y.1, q34) = BasicD x.1) /\ True)))
theorem e29 : t29 = Con.vc c_ext_Basic GL (mkEnv ty [(69, conSem c_num_Bool), (79, conSem c_num_Int), (43, conSem c_ext_wrap)] [] [] [0, 1, 2, 3, 4, 5, 23, 25, 31]) {} Tryz.f29.ntmps Tryz.f29.results.toList (bodyOf Tryz.f29) := by kernel_rfl
theorem k29 : t29 := by
  unfold t29
  delta q90 q61 q262 q259 q260 q258 q362 q363 q261 q263 q5 q96 q62 q257 q34 q67 q364 q73 q63 wyZ
  rintro ⟨⟨c, n⟩, _⟩ hx hp
  try dsimp +instances only [dft_int, dft_sl, dft_str]
  simp only [true_and, and_true, eq_self_iff_true, implies_true, reduceCtorEq, false_implies, true_implies, decide_eq_true_eq, decide_eq_false_iff_not, beq_self_eq_true, Bool.not_eq_true', ne_eq, Decidable.not_not, List.nil_append, List.length_singleton, List.length_cons, List.length_nil, Nat.zero_add, Nat.add_zero, Nat.mul_one, and_self, beq_iff_eq, Bool.not_true, Bool.not_false, Bool.not_eq_false', Bool.cond_false_right, Bool.and_eq_true, imp_self, Bool.not_eq_true, Bool.cond_true_left, Bool.or_eq_true]
  have hi := int_len n
  refine ⟨by decide, fun a b => ⟨a, b⟩, fun a b => ⟨a, b⟩, fun a => ⟨a, fun b => ⟨a, b⟩⟩, fun h => (basic_no h).symm, fun h => ?_⟩
  have h1 : ¬ (n < -1 ∨ 100 < n) ∧ ¬ (c = false ∧ n ≠ -1) := by cases c <;> simp at h ⊢ <;> omega
  have hm := basic_ok h1.1 h1.2
  have hcl := ca_len c
  have hpl := path_len n
  rw [hm]
  refine ⟨fun hc => ?_, fun hc => ?_⟩
  . rintro ⟨v, _⟩ _ ev
    simp only at ev ⊢
    refine ⟨⟨by decide, by rw [ev]; simp [lenF, BoolD]⟩, ?_⟩
    rintro ⟨w, _⟩ _ ew
    simp only at ew ⊢
    have hca : w = caB c := by rw [ew, ev, hc]; rfl
    refine ⟨fun h0 => ?_, fun h0 => ?_⟩
    . rintro ⟨u, _⟩ _ eu
      simp only at eu ⊢
      refine ⟨⟨by decide, by rw [eu]; simp only [lenF, List.flatten_cons, List.flatten_nil, List.append_nil]; omega⟩, ?_⟩
      rintro ⟨q, _⟩ _ eq
      simp only at eq ⊢
      have hpa : q = pathB n := by rw [eq, eu, pathB, if_neg (by omega)]; simp
      refine ⟨⟨by decide, by rw [hca, hpa]; simp [lenF]; omega⟩, ?_⟩
      rintro ⟨z, _⟩ _ ez
      simp only at ez ⊢
      rw [ez, hca, hpa]; simp
    . have hpa : pathB n = [] := by rw [pathB, if_pos (by omega)]
      refine ⟨⟨by decide, by rw [hca]; simp [lenF]; omega⟩, ?_⟩
      rintro ⟨z, _⟩ _ ez
      simp only at ez ⊢
      rw [ez, hca, hpa]; simp
  . have hn : n = -1 := by
      by_cases e : n = -1
      . exact e
      . exact absurd ⟨hc, e⟩ h1.2
    refine ⟨fun h0 => by omega, fun h0 => ⟨⟨by decide, by decide⟩, ?_⟩⟩
    rintro ⟨z, _⟩ _ ez
    simp only at ez ⊢
    rw [ez, pathB, if_pos hn, hc]; rfl
theorem h29 : c_ext_Basic.ok Tryz.prog GL 29 := con_ok (H := {}) (mkEnv_ok (gl := GL) (l := [(69, conSem c_num_Bool), (79, conSem c_num_Int), (43, conSem c_ext_wrap)]) (q := []) (d := []) _ tyOk (by kernel_rfl) ⟨h69.call, h79.call, h43.call, trivial⟩ trivial trivial) (by kernel_rfl) (by kernel_rfl) (Eq.mp e29 k29)
def t31 : Prop :=
  ∀ (x : q1), (q224 x) -> True -> (decide (x.1 = q34) = false -> True) /\ (decide (x.1 = q34) = false -> (decide (x.1 = q34) == false) = true /\ True) /\ (decide (x.1 = q34) = false ->
  (decide (x.1 = q34) == false) = true) /\ ((bif decide (x.1 = q34) then true else decide ((512 : Int) <= x.1)) = true -> ([], q263) = UsageD x.1) /\ ((bif decide (x.1 = q34) then true else
  decide ((512 : Int) <= x.1)) = false -> True /\ (∀ (y : q5), (q96 y) -> y.1 = FlagsD (q330 x) -> (isTagD (3 : Int) = true /\ lenF [y.1] <= q257) /\ (∀ (y_1 : q5), (q96 y_1) -> y_1.1 = putB
  ((3 : Int), List.flatten [y.1]) -> (y_1.1, q34) = UsageD x.1) /\ True) /\ True)
theorem e31 : t31 = Con.vc c_ext_Usage GL (mkEnv ty [(84, conSem c_num_Flags), (43, conSem c_ext_wrap)] [] [] [0, 2, 3, 9]) {} Tryz.f31.ntmps Tryz.f31.results.toList (bodyOf Tryz.f31) := by kernel_rfl
theorem k31 : t31 := by
  unfold t31
  delta q1 q224 q34 q263 q5 q96 q330 q257 wyZ
  rintro ⟨n, _⟩ hx hp
  try dsimp +instances only [dft_int, dft_sl, dft_str]
  simp only [true_and, and_true, eq_self_iff_true, implies_true, reduceCtorEq, false_implies, true_implies, decide_eq_true_eq, decide_eq_false_iff_not, beq_self_eq_true, Bool.not_eq_true', ne_eq, Decidable.not_not, List.nil_append, List.length_singleton, List.length_cons, List.length_nil, Nat.zero_add, Nat.add_zero, Nat.mul_one, and_self, beq_iff_eq, Bool.not_true, Bool.not_false, Bool.not_eq_false', Bool.cond_false_right, Bool.and_eq_true, imp_self, Bool.not_eq_true, Bool.cond_true_left, Bool.or_eq_true]
  have hl := flags_len n.toNat
  refine ⟨fun h => by rw [UsageD, if_pos (by omega)], fun h => ?_⟩
  have h1 : ¬ (n = 0 ∨ 511 < n) := by simp at h; omega
  rintro ⟨u, _⟩ _ eu
  simp only at eu ⊢
  refine ⟨⟨by decide, by rw [eu]; simp [lenF]; omega⟩, ?_⟩
  rintro ⟨z, _⟩ _ ez
  simp only at ez ⊢
  rw [ez, eu, UsageD, if_neg h1]; simp
theorem h31 : c_ext_Usage.ok Tryz.prog GL 31 := con_ok (H := {}) (mkEnv_ok (gl := GL) (l := [(84, conSem c_num_Flags), (43, conSem c_ext_wrap)]) (q := []) (d := []) _ tyOk (by kernel_rfl) ⟨h84.call, h43.call, trivial⟩ trivial trivial) (by kernel_rfl) (by kernel_rfl) (Eq.mp e31 k31)
def t33 : Prop :=
  ∀ (x : q1), (q30 x) -> True -> (decide (x.1 < q34) = true -> ([], q263) = NumberD x.1) /\ (decide (x.1 < q34) = false -> True /\ (∀ (y : q5), (q96 y) -> y.1 = IntD x.1 -> (isTagD q67 = true
  /\ lenF [y.1] <= q257) /\ (∀ (y_1 : q5), (q96 y_1) -> y_1.1 = putB (q67, List.flatten [y.1]) -> (y_1.1, q34) = NumberD x.1) /\ True) /\ True)
theorem e33 : t33 = Con.vc c_ext_Number GL (mkEnv ty [(79, conSem c_num_Int), (43, conSem c_ext_wrap)] [] [] [0, 2, 3, 5]) {} Tryz.f33.ntmps Tryz.f33.results.toList (bodyOf Tryz.f33) := by kernel_rfl
theorem k33 : t33 := by
  unfold t33
  delta q1 q30 q34 q263 q5 q96 q67 q257 wiZ wyZ
  rintro ⟨n, _⟩ hx hp
  try dsimp +instances only [dft_int, dft_sl, dft_str]
  simp only [true_and, and_true, eq_self_iff_true, implies_true, reduceCtorEq, false_implies, true_implies, decide_eq_true_eq, decide_eq_false_iff_not, beq_self_eq_true, Bool.not_eq_true', ne_eq, Decidable.not_not, List.nil_append, List.length_singleton, List.length_cons, List.length_nil, Nat.zero_add, Nat.add_zero, Nat.mul_one, and_self, beq_iff_eq, Bool.not_true, Bool.not_false, Bool.not_eq_false', Bool.cond_false_right, Bool.and_eq_true, imp_self, Bool.not_eq_true, Bool.cond_true_left, Bool.or_eq_true]
  have hl := int_len n
  refine ⟨fun h => by rw [NumberD, if_pos h], fun h => ?_⟩
  rintro ⟨u, _⟩ _ eu
  simp only at eu ⊢
  refine ⟨⟨by decide, by rw [eu]; simp [lenF]; omega⟩, ?_⟩
  rintro ⟨z, _⟩ _ ez
  simp only at ez ⊢
  rw [ez, eu, NumberD, if_neg h]; simp
theorem h33 : c_ext_Number.ok Tryz.prog GL 33 := con_ok (H := {}) (mkEnv_ok (gl := GL) (l := [(79, conSem c_num_Int), (43, conSem c_ext_wrap)]) (q := []) (d := []) _ tyOk (by kernel_rfl) ⟨h79.call, h43.call, trivial⟩ trivial trivial) (by kernel_rfl) (by kernel_rfl) (Eq.mp e33 k33)
def t88 : Prop :=
  ∀ (x : q1), (q30 x) -> True -> (decide (q33 x) = true -> True) /\ (decide (q33 x) = true -> (decide (q33 x) == true) = true /\ True) /\ (decide (q33 x) = true -> (decide (q33 x) == true) =
  true) /\ ((q264 x) = true -> True) /\ ((q264 x) = true -> ((q264 x) == true) = true /\ True) /\ ((q264 x) = true -> ((q264 x) == true) = true) /\ (bif bif decide (q33 x) then decide (x.1 <=
  (10 : Int)) else false then decide (x.1 ≠ q415) else false) = reasonK x.1
theorem e88 : t88 = Con.vc c_ext_reason GL (mkEnv ty [] [] [] [0, 2]) {} Tryz.f88.ntmps Tryz.f88.results.toList (bodyOf Tryz.f88) := by kernel_rfl
theorem k88 : t88 := by
  unfold t88
  delta q1 q30 q33 q264 q415 wiZ q332
  rintro ⟨n, _⟩ hx hp
  try dsimp +instances only [dft_int, dft_sl, dft_str]
  simp only [true_and, and_true, eq_self_iff_true, implies_true, reduceCtorEq, false_implies, true_implies, decide_eq_true_eq, decide_eq_false_iff_not, beq_self_eq_true, Bool.not_eq_true', ne_eq, Decidable.not_not, List.nil_append, List.length_singleton, List.length_cons, List.length_nil, Nat.zero_add, Nat.add_zero, Nat.mul_one, and_self, beq_iff_eq, Bool.not_true, Bool.not_false, Bool.not_eq_false', Bool.cond_false_right, Bool.and_eq_true, imp_self, Bool.not_eq_true, Bool.cond_true_left, Bool.or_eq_true]
  rw [reasonK, Bool.and_assoc]
theorem h88 : c_ext_reason.ok Tryz.prog GL 88 := con_ok (H := {}) (mkEnv_ok (gl := GL) (l := []) (q := []) (d := []) _ tyOk (by kernel_rfl) trivial trivial trivial) (by kernel_rfl) (by kernel_rfl) (Eq.mp e88 k88)
def t35 : Prop :=
  ∀ (x : q1), (q30 x) -> True -> True /\ (∀ (y : q4), (q41 y) -> y.1 = reasonK x.1 -> ((!y.1) = true -> ([], q263) = ReasonD x.1) /\ ((!y.1) = false -> True /\ (∀ (y : q5), (q96 y) -> y.1 =
  IntD x.1 -> (isTagD (10 : Int) = true /\ lenF [y.1] <= q257) /\ (∀ (y_1 : q5), (q96 y_1) -> y_1.1 = putB ((10 : Int), List.flatten [y.1]) -> (y_1.1, q34) = ReasonD x.1) /\ True) /\ True))
  /\ True
theorem e35 : t35 = Con.vc c_ext_Reason GL (mkEnv ty [(88, conSem c_ext_reason), (79, conSem c_num_Int), (43, conSem c_ext_wrap)] [] [] [0, 2, 3, 6]) {} Tryz.f35.ntmps Tryz.f35.results.toList (bodyOf Tryz.f35) := by kernel_rfl
theorem k35 : t35 := by
  unfold t35
  delta q1 q30 q4 q41 q263 q5 q96 q257 q34 wiZ wbZ wyZ
  rintro ⟨n, _⟩ hx hp
  try dsimp +instances only [dft_int, dft_sl, dft_str]
  simp only [true_and, and_true, eq_self_iff_true, implies_true, reduceCtorEq, false_implies, true_implies, decide_eq_true_eq, decide_eq_false_iff_not, beq_self_eq_true, Bool.not_eq_true', ne_eq, Decidable.not_not, List.nil_append, List.length_singleton, List.length_cons, List.length_nil, Nat.zero_add, Nat.add_zero, Nat.mul_one, and_self, beq_iff_eq, Bool.not_true, Bool.not_false, Bool.not_eq_false', Bool.cond_false_right, Bool.and_eq_true, imp_self, Bool.not_eq_true, Bool.cond_true_left, Bool.or_eq_true]
  have hl := int_len n
  rintro ⟨k, _⟩ _ ek
  simp only at ek ⊢
  refine ⟨fun h => by rw [ReasonD, if_pos (by rw [← ek]; exact h)], fun h => ?_⟩
  rintro ⟨u, _⟩ _ eu
  simp only at eu ⊢
  refine ⟨⟨by decide, by rw [eu]; simp [lenF]; omega⟩, ?_⟩
  rintro ⟨z, _⟩ _ ez
  simp only at ez ⊢
  rw [ez, eu, ReasonD, if_neg (by rw [← ek, h]; decide)]; simp
theorem h35 : c_ext_Reason.ok Tryz.prog GL 35 := con_ok (H := {}) (mkEnv_ok (gl := GL) (l := [(88, conSem c_ext_reason), (79, conSem c_num_Int), (43, conSem c_ext_wrap)]) (q := []) (d := []) _ tyOk (by kernel_rfl) ⟨h88.call, h79.call, h43.call, trivial⟩ trivial trivial) (by kernel_rfl) (by kernel_rfl) (Eq.mp e35 k35)
def t15 : Prop :=
  ∀ (x : q5), (q265 x) -> True -> List.length [SV.dat q29 (List.getD x.1 (nat_lit 0) q143), SV.dat q29 (List.getD x.1 (nat_lit 1) q143), SV.dat q29 (List.getD x.1 (nat_lit 2) q143), SV.dat
  q29 (List.getD x.1 (nat_lit 3) q143), SV.dat q29 (List.getD x.1 (nat_lit 4) q143), SV.dat q29 (List.getD x.1 (nat_lit 5) q143), SV.dat q29 (List.getD x.1 (nat_lit 6) q143), SV.dat q29
  (List.getD x.1 (nat_lit 7) q143), SV.dat q29 (List.getD x.1 (nat_lit 8) q143), SV.dat q29 (List.getD x.1 (nat_lit 9) q143), SV.dat q29 (List.getD x.1 (nat_lit 10) q143), SV.dat q29
  (List.getD x.1 (nat_lit 11) q143), SV.dat q29 (List.getD x.1 (nat_lit 12) q143), SV.dat q29 (List.getD x.1 (nat_lit 13) q143), SV.dat q29 (List.getD x.1 (nat_lit 14) q143), SV.dat q29
  (List.getD x.1 (nat_lit 15) q143), SV.dat q29 (List.getD x.1 (nat_lit 16) q143), SV.dat q29 (List.getD x.1 (nat_lit 17) q143), SV.dat q29 (List.getD x.1 (nat_lit 18) q143), SV.dat q29
  (List.getD x.1 (nat_lit 19) q143)] <= q61 /\ List.length x.1 = q266 /\ (isTagD q64 = true /\ lenF [List.take q266 (List.drop q63 x.1)] <= q257) /\ (∀ (y : q5), (q96 y) -> y.1 = putB (q64,
  List.flatten [List.take q266 (List.drop q63 x.1)]) -> y.1 = SubjectD x.1) /\ True
theorem e15 : t15 = Con.vc c_ext_Subject GL (mkEnv ty [(43, conSem c_ext_wrap)] [] [] [0, 1, 2]) {} Tryz.f15.ntmps Tryz.f15.results.toList (bodyOf Tryz.f15) := by kernel_rfl
theorem k15 : t15 := by
  unfold t15
  delta q5 q265 q29 q143 q61 q266 q64 q63 q257 q96 q371 wyZ
  rintro ⟨n, _⟩ hx hp
  have h20 : n.length = 20 := hx.1.1
  try dsimp +instances only [dft_int, dft_sl, dft_str]
  simp only [true_and, and_true, eq_self_iff_true, implies_true, reduceCtorEq, false_implies, true_implies, decide_eq_true_eq, decide_eq_false_iff_not, beq_self_eq_true, Bool.not_eq_true', ne_eq, Decidable.not_not, List.nil_append, List.length_singleton, List.length_cons, List.length_nil, Nat.zero_add, Nat.add_zero, Nat.mul_one, and_self, beq_iff_eq, Bool.not_true, Bool.not_false, Bool.not_eq_false', Bool.cond_false_right, Bool.and_eq_true, imp_self, Bool.not_eq_true, Bool.cond_true_left, Bool.or_eq_true]
  rw [take20 h20]
  refine ⟨by decide, h20, ⟨by decide, by simp [lenF]; omega⟩, ?_⟩
  rintro ⟨z, _⟩ _ ez
  simp only at ez ⊢
  rw [ez]; simp [SubjectD]
theorem h15 : c_ext_Subject.ok Tryz.prog GL 15 := con_ok (H := {}) (mkEnv_ok (gl := GL) (l := [(43, conSem c_ext_wrap)]) (q := []) (d := []) _ tyOk (by kernel_rfl) ⟨h43.call, trivial⟩ trivial trivial) (by kernel_rfl) (by kernel_rfl) (Eq.mp e15 k15)
def t38 : Prop :=
  ∀ (x : q5), (q265 x) -> True -> List.length [SV.dat q29 (List.getD x.1 (nat_lit 0) q143), SV.dat q29 (List.getD x.1 (nat_lit 1) q143), SV.dat q29 (List.getD x.1 (nat_lit 2) q143), SV.dat
  q29 (List.getD x.1 (nat_lit 3) q143), SV.dat q29 (List.getD x.1 (nat_lit 4) q143), SV.dat q29 (List.getD x.1 (nat_lit 5) q143), SV.dat q29 (List.getD x.1 (nat_lit 6) q143), SV.dat q29
  (List.getD x.1 (nat_lit 7) q143), SV.dat q29 (List.getD x.1 (nat_lit 8) q143), SV.dat q29 (List.getD x.1 (nat_lit 9) q143), SV.dat q29 (List.getD x.1 (nat_lit 10) q143), SV.dat q29
  (List.getD x.1 (nat_lit 11) q143), SV.dat q29 (List.getD x.1 (nat_lit 12) q143), SV.dat q29 (List.getD x.1 (nat_lit 13) q143), SV.dat q29 (List.getD x.1 (nat_lit 14) q143), SV.dat q29
  (List.getD x.1 (nat_lit 15) q143), SV.dat q29 (List.getD x.1 (nat_lit 16) q143), SV.dat q29 (List.getD x.1 (nat_lit 17) q143), SV.dat q29 (List.getD x.1 (nat_lit 18) q143), SV.dat q29
  (List.getD x.1 (nat_lit 19) q143)] <= q61 /\ List.length x.1 = q266 /\ (isTagD q75 = true /\ lenF [List.take q266 (List.drop q63 x.1)] <= q257) /\ (∀ (y : q5), (q96 y) -> y.1 = putB (q75,
  List.flatten [List.take q266 (List.drop q63 x.1)]) -> (isTagD (48 : Int) = true /\ lenF [y.1] <= q364) /\ (∀ (y_1 : q5), (q96 y_1) -> y_1.1 = putB (q73, List.flatten [y.1]) -> y_1.1 =
  IssuerD x.1) /\ True) /\ True
theorem e38 : t38 = Con.vc c_ext_Issuer GL (mkEnv ty [(43, conSem c_ext_wrap)] [] [] [0, 1, 2]) {} Tryz.f38.ntmps Tryz.f38.results.toList (bodyOf Tryz.f38) := by kernel_rfl
theorem k38 : t38 := by
  unfold t38
  delta q5 q265 q29 q143 q61 q266 q75 q63 q257 q96 q364 q73 q371 wyZ
  rintro ⟨n, _⟩ hx hp
  have h20 : n.length = 20 := hx.1.1
  have hl : (putB (128, n)).length = 22 := by rw [put_small (x := (128, n)) (by simp only; omega)]; simp only; omega
  try dsimp +instances only [dft_int, dft_sl, dft_str]
  simp only [true_and, and_true, eq_self_iff_true, implies_true, reduceCtorEq, false_implies, true_implies, decide_eq_true_eq, decide_eq_false_iff_not, beq_self_eq_true, Bool.not_eq_true', ne_eq, Decidable.not_not, List.nil_append, List.length_singleton, List.length_cons, List.length_nil, Nat.zero_add, Nat.add_zero, Nat.mul_one, and_self, beq_iff_eq, Bool.not_true, Bool.not_false, Bool.not_eq_false', Bool.cond_false_right, Bool.and_eq_true, imp_self, Bool.not_eq_true, Bool.cond_true_left, Bool.or_eq_true]
  rw [take20 h20]
  refine ⟨by decide, h20, ⟨by decide, by simp [lenF]; omega⟩, ?_⟩
  rintro ⟨y, _⟩ _ ey
  simp only at ey ⊢
  have ey : y = putB (128, n) := by rw [ey]; simp
  refine ⟨⟨by decide, by rw [ey]; simp [lenF]; omega⟩, ?_⟩
  rintro ⟨z, _⟩ _ ez
  simp only at ez ⊢
  rw [ez, ey]; simp [IssuerD]
theorem h38 : c_ext_Issuer.ok Tryz.prog GL 38 := con_ok (H := {}) (mkEnv_ok (gl := GL) (l := [(43, conSem c_ext_wrap)]) (q := []) (d := []) _ tyOk (by kernel_rfl) ⟨h43.call, trivial⟩ trivial trivial) (by kernel_rfl) (by kernel_rfl) (Eq.mp e38 k38)
end Go.Proofs.YtiofbnlbfmbodaaGreatDoor
end
