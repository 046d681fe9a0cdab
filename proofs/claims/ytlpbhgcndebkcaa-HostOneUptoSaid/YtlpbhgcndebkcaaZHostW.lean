/- Walks. -/
import Derived.Test.YtlpbhgcndebkcaaZHostA
set_option linter.unusedVariables false
set_option linter.unusedSimpArgs false
namespace Go.Proofs.Ytlpbhgcndebkcaa
open Go Go.Vc Go.Pl Go.Proofs
set_option linter.unusedVariables false
set_option linter.unusedSimpArgs false
def t36 : Prop :=
  ∀ (x : Int × Unit),
    Kd.wf (Kd.int IntKind.u8) x.fst ∧ True →
      True →
        (decide ((97 : Int) ≤ x.fst) = true → True) ∧
          (decide ((97 : Int) ≤ x.fst) = true → (decide ((97 : Int) ≤ x.fst) == true) = true ∧ True) ∧
            (decide ((97 : Int) ≤ x.fst) = true → (decide ((97 : Int) ≤ x.fst) == true) = true) ∧
              ((bif decide ((97 : Int) ≤ x.fst) then decide (x.fst ≤ (122 : Int)) else false) = false → True) ∧
                ((bif decide ((97 : Int) ≤ x.fst) then decide (x.fst ≤ (122 : Int)) else false) = false →
                    ((bif decide ((97 : Int) ≤ x.fst) then decide (x.fst ≤ (122 : Int)) else false) == false) = true ∧ True) ∧
                  ((bif decide ((97 : Int) ≤ x.fst) then decide (x.fst ≤ (122 : Int)) else false) = false → True) ∧
                    (((bif decide ((97 : Int) ≤ x.fst) then decide (x.fst ≤ (122 : Int)) else false) == false &&
                            (bif decide ((97 : Int) ≤ x.fst) then decide (x.fst ≤ (122 : Int)) else false) == false) =
                          true →
                        decide ((65 : Int) ≤ x.fst) = true → True) ∧
                      (((bif decide ((97 : Int) ≤ x.fst) then decide (x.fst ≤ (122 : Int)) else false) == false &&
                              (bif decide ((97 : Int) ≤ x.fst) then decide (x.fst ≤ (122 : Int)) else false) == false) =
                            true →
                          decide ((65 : Int) ≤ x.fst) = true →
                            ((bif decide ((97 : Int) ≤ x.fst) then decide (x.fst ≤ (122 : Int)) else false) == false &&
                                    (bif decide ((97 : Int) ≤ x.fst) then decide (x.fst ≤ (122 : Int)) else false) == false &&
                                  decide ((65 : Int) ≤ x.fst) == true) =
                                true ∧
                              True) ∧
                        ((bif decide ((97 : Int) ≤ x.fst) then decide (x.fst ≤ (122 : Int)) else false) = false →
                            ((bif decide ((97 : Int) ≤ x.fst) then decide (x.fst ≤ (122 : Int)) else false) == false &&
                                  (bif decide ((97 : Int) ≤ x.fst) then decide (x.fst ≤ (122 : Int)) else false) == false) =
                                true ∧
                              (decide ((65 : Int) ≤ x.fst) = true →
                                  ((bif decide ((97 : Int) ≤ x.fst) then decide (x.fst ≤ (122 : Int)) else false) == false &&
                                        (bif decide ((97 : Int) ≤ x.fst) then decide (x.fst ≤ (122 : Int)) else false) == false &&
                                      decide ((65 : Int) ≤ x.fst) == true) =
                                    true) ∧
                                True) ∧
                          ((bif decide ((97 : Int) ≤ x.fst) then decide (x.fst ≤ (122 : Int)) else false) = false →
                              ((bif decide ((97 : Int) ≤ x.fst) then decide (x.fst ≤ (122 : Int)) else false) == false) = true) ∧
                            (bif bif decide ((97 : Int) ≤ x.fst) then decide (x.fst ≤ (122 : Int)) else false then true
                              else bif decide ((65 : Int) ≤ x.fst) then decide (x.fst ≤ (90 : Int)) else false) =
                              letterD x.fst
theorem e36 : t36 = Con.vc c_host_letter GL (mkEnv ty [] [] [] [0, 2]) {} Try.f36.ntmps Try.f36.results.toList (bodyOf Try.f36) := by kernel_rfl
theorem k36 : t36 := by
  unfold t36
  rintro ⟨l, _⟩ hx hp
  try dsimp +instances only [dft_int, dft_sl, dft_str]
  simp only [true_and, and_true, eq_self_iff_true, implies_true, reduceCtorEq, false_implies, true_implies, decide_eq_true_eq, decide_eq_false_iff_not, beq_self_eq_true, Bool.not_eq_true', ne_eq, Decidable.not_not, List.nil_append, List.length_singleton, List.length_cons, List.length_nil, Nat.zero_add, Nat.add_zero, Nat.mul_one, and_self, beq_iff_eq, Bool.not_true, Bool.not_false, Bool.not_eq_false', Bool.cond_false_right, Bool.and_eq_true, imp_self, Bool.not_eq_true, Bool.cond_true_left, Bool.or_eq_true]
  refine ⟨fun h h2 => ⟨h, h2⟩, fun h => ⟨h, fun h2 => ⟨h, h2⟩⟩, ?_⟩
  rw [Bool.eq_iff_iff, letterD]
  simp only [Bool.or_eq_true, Bool.and_eq_true, decide_eq_true_eq]
theorem h36 : c_host_letter.ok Try.prog GL 36 := con_ok (H := {}) (mkEnv_ok (gl := GL) (l := []) (q := []) (d := []) _ tyOk (by kernel_rfl) trivial trivial trivial) (by kernel_rfl) (by kernel_rfl) (Eq.mp e36 k36)

def t30 : Prop :=
  ∀ (x : Int × Unit),
    Kd.wf (Kd.int IntKind.u8) x.fst ∧ True →
      True →
        (decide ((97 : Int) ≤ x.fst) = true → True) ∧
          (decide ((97 : Int) ≤ x.fst) = true → (decide ((97 : Int) ≤ x.fst) == true) = true ∧ True) ∧
            (decide ((97 : Int) ≤ x.fst) = true → (decide ((97 : Int) ≤ x.fst) == true) = true) ∧
              ((bif decide ((97 : Int) ≤ x.fst) then decide (x.fst ≤ (122 : Int)) else false) = false → True) ∧
                ((bif decide ((97 : Int) ≤ x.fst) then decide (x.fst ≤ (122 : Int)) else false) = false →
                    ((bif decide ((97 : Int) ≤ x.fst) then decide (x.fst ≤ (122 : Int)) else false) == false) = true ∧ True) ∧
                  ((bif decide ((97 : Int) ≤ x.fst) then decide (x.fst ≤ (122 : Int)) else false) = false → True) ∧
                    (((bif decide ((97 : Int) ≤ x.fst) then decide (x.fst ≤ (122 : Int)) else false) == false &&
                            (bif decide ((97 : Int) ≤ x.fst) then decide (x.fst ≤ (122 : Int)) else false) == false) =
                          true →
                        decide ((65 : Int) ≤ x.fst) = true → True) ∧
                      (((bif decide ((97 : Int) ≤ x.fst) then decide (x.fst ≤ (122 : Int)) else false) == false &&
                              (bif decide ((97 : Int) ≤ x.fst) then decide (x.fst ≤ (122 : Int)) else false) == false) =
                            true →
                          decide ((65 : Int) ≤ x.fst) = true →
                            ((bif decide ((97 : Int) ≤ x.fst) then decide (x.fst ≤ (122 : Int)) else false) == false &&
                                    (bif decide ((97 : Int) ≤ x.fst) then decide (x.fst ≤ (122 : Int)) else false) == false &&
                                  decide ((65 : Int) ≤ x.fst) == true) =
                                true ∧
                              True) ∧
                        ((bif decide ((97 : Int) ≤ x.fst) then decide (x.fst ≤ (122 : Int)) else false) = false →
                            ((bif decide ((97 : Int) ≤ x.fst) then decide (x.fst ≤ (122 : Int)) else false) == false &&
                                  (bif decide ((97 : Int) ≤ x.fst) then decide (x.fst ≤ (122 : Int)) else false) == false) =
                                true ∧
                              (decide ((65 : Int) ≤ x.fst) = true →
                                  ((bif decide ((97 : Int) ≤ x.fst) then decide (x.fst ≤ (122 : Int)) else false) == false &&
                                        (bif decide ((97 : Int) ≤ x.fst) then decide (x.fst ≤ (122 : Int)) else false) == false &&
                                      decide ((65 : Int) ≤ x.fst) == true) =
                                    true) ∧
                                True) ∧
                          ((bif decide ((97 : Int) ≤ x.fst) then decide (x.fst ≤ (122 : Int)) else false) = false →
                              ((bif decide ((97 : Int) ≤ x.fst) then decide (x.fst ≤ (122 : Int)) else false) == false) = true) ∧
                            (bif bif decide ((97 : Int) ≤ x.fst) then decide (x.fst ≤ (122 : Int)) else false then true
                              else bif decide ((65 : Int) ≤ x.fst) then decide (x.fst ≤ (90 : Int)) else false) =
                              letterD x.fst
theorem e30 : t30 = Con.vc c_r13_letter GL (mkEnv ty [] [] [] [0, 2]) {} Try.f30.ntmps Try.f30.results.toList (bodyOf Try.f30) := by kernel_rfl
theorem k30 : t30 := by
  unfold t30
  rintro ⟨l, _⟩ hx hp
  try dsimp +instances only [dft_int, dft_sl, dft_str]
  simp only [true_and, and_true, eq_self_iff_true, implies_true, reduceCtorEq, false_implies, true_implies, decide_eq_true_eq, decide_eq_false_iff_not, beq_self_eq_true, Bool.not_eq_true', ne_eq, Decidable.not_not, List.nil_append, List.length_singleton, List.length_cons, List.length_nil, Nat.zero_add, Nat.add_zero, Nat.mul_one, and_self, beq_iff_eq, Bool.not_true, Bool.not_false, Bool.not_eq_false', Bool.cond_false_right, Bool.and_eq_true, imp_self, Bool.not_eq_true, Bool.cond_true_left, Bool.or_eq_true]
  refine ⟨fun h h2 => ⟨h, h2⟩, fun h => ⟨h, fun h2 => ⟨h, h2⟩⟩, ?_⟩
  rw [Bool.eq_iff_iff, letterD]
  simp only [Bool.or_eq_true, Bool.and_eq_true, decide_eq_true_eq]
theorem h30 : c_r13_letter.ok Try.prog GL 30 := con_ok (H := {}) (mkEnv_ok (gl := GL) (l := []) (q := []) (d := []) _ tyOk (by kernel_rfl) trivial trivial trivial) (by kernel_rfl) (by kernel_rfl) (Eq.mp e30 k30)

def t23 : Prop :=
  ∀ (x : Int × Unit),
    Kd.wf (Kd.int IntKind.u8) x.fst ∧ True →
      True →
        (decide ((48 : Int) ≤ x.fst) = true → True) ∧
          (decide ((48 : Int) ≤ x.fst) = true → (decide ((48 : Int) ≤ x.fst) == true) = true ∧ True) ∧
            (decide ((48 : Int) ≤ x.fst) = true → (decide ((48 : Int) ≤ x.fst) == true) = true) ∧ (bif decide ((48 : Int) ≤ x.fst) then decide (x.fst ≤ (57 : Int)) else false) = digitD x.fst
theorem e23 : t23 = Con.vc c_host_digit GL (mkEnv ty [] [] [] [0, 2]) {} Try.f23.ntmps Try.f23.results.toList (bodyOf Try.f23) := by kernel_rfl
theorem k23 : t23 := by
  unfold t23
  rintro ⟨l, _⟩ hx hp
  try dsimp +instances only [dft_int, dft_sl, dft_str]
  simp only [true_and, and_true, eq_self_iff_true, implies_true, reduceCtorEq, false_implies, true_implies, decide_eq_true_eq, decide_eq_false_iff_not, beq_self_eq_true, Bool.not_eq_true', ne_eq, Decidable.not_not, List.nil_append, List.length_singleton, List.length_cons, List.length_nil, Nat.zero_add, Nat.add_zero, Nat.mul_one, and_self, beq_iff_eq, Bool.not_true, Bool.not_false, Bool.not_eq_false', Bool.cond_false_right, Bool.and_eq_true, imp_self, Bool.not_eq_true, Bool.cond_true_left, Bool.or_eq_true]
  rw [Bool.eq_iff_iff, digitD]
  simp only [Bool.and_eq_true, decide_eq_true_eq]
theorem h23 : c_host_digit.ok Try.prog GL 23 := con_ok (H := {}) (mkEnv_ok (gl := GL) (l := []) (q := []) (d := []) _ tyOk (by kernel_rfl) trivial trivial trivial) (by kernel_rfl) (by kernel_rfl) (Eq.mp e23 k23)

def t25 : Prop :=
  ∀ (x : Int × Unit),
    Kd.wf (Kd.int IntKind.u8) x.fst ∧ True →
      True →
        (decide ((48 : Int) ≤ x.fst) = true → True) ∧
          (decide ((48 : Int) ≤ x.fst) = true → (decide ((48 : Int) ≤ x.fst) == true) = true ∧ True) ∧
            (decide ((48 : Int) ≤ x.fst) = true → (decide ((48 : Int) ≤ x.fst) == true) = true) ∧ (bif decide ((48 : Int) ≤ x.fst) then decide (x.fst ≤ (57 : Int)) else false) = digitD x.fst
theorem e25 : t25 = Con.vc c_r13_digit GL (mkEnv ty [] [] [] [0, 2]) {} Try.f25.ntmps Try.f25.results.toList (bodyOf Try.f25) := by kernel_rfl
theorem k25 : t25 := by
  unfold t25
  rintro ⟨l, _⟩ hx hp
  try dsimp +instances only [dft_int, dft_sl, dft_str]
  simp only [true_and, and_true, eq_self_iff_true, implies_true, reduceCtorEq, false_implies, true_implies, decide_eq_true_eq, decide_eq_false_iff_not, beq_self_eq_true, Bool.not_eq_true', ne_eq, Decidable.not_not, List.nil_append, List.length_singleton, List.length_cons, List.length_nil, Nat.zero_add, Nat.add_zero, Nat.mul_one, and_self, beq_iff_eq, Bool.not_true, Bool.not_false, Bool.not_eq_false', Bool.cond_false_right, Bool.and_eq_true, imp_self, Bool.not_eq_true, Bool.cond_true_left, Bool.or_eq_true]
  rw [Bool.eq_iff_iff, digitD]
  simp only [Bool.and_eq_true, decide_eq_true_eq]
theorem h25 : c_r13_digit.ok Try.prog GL 25 := con_ok (H := {}) (mkEnv_ok (gl := GL) (l := []) (q := []) (d := []) _ tyOk (by kernel_rfl) trivial trivial trivial) (by kernel_rfl) (by kernel_rfl) (Eq.mp e25 k25)

def t35 : Prop :=
  ∀ (x : Int × Unit),
    Kd.wf (Kd.int IntKind.u8) x.fst ∧ True →
      True →
        True ∧
          (∀ (y : Bool × Unit),
              Kd.wf Kd.bool y.fst ∧ True →
                y.fst = letterD x.fst →
                  (y.fst = false → True) ∧
                    (y.fst = false →
                        (y.fst == false) = true ∧
                          True ∧
                            (∀ (y : Bool × Unit),
                                Kd.wf Kd.bool y.fst ∧ True →
                                  y.fst = digitD x.fst →
                                    (y.fst = false → True) ∧
                                      (y.fst = false → (y.fst == false) = true ∧ True) ∧
                                        (y.fst = false → (y.fst == false) = true) ∧ (bif y.fst then true else decide (x.fst = (45 : Int))) = lcharD x.fst) ∧
                              True) ∧
                      (y.fst = !false → true = lcharD x.fst)) ∧
            True
theorem e35 : t35 = Con.vc c_host_label_1 GL (mkEnv ty [(36, conSem c_host_letter), (23, conSem c_host_digit)] [] [] [0, 2]) {} Try.f35.ntmps Try.f35.results.toList (bodyOf Try.f35) := by kernel_rfl
theorem k35 : t35 := by
  unfold t35
  rintro ⟨l, _⟩ hx hp
  try dsimp +instances only [dft_int, dft_sl, dft_str]
  simp only [true_and, and_true, eq_self_iff_true, implies_true, reduceCtorEq, false_implies, true_implies, decide_eq_true_eq, decide_eq_false_iff_not, beq_self_eq_true, Bool.not_eq_true', ne_eq, Decidable.not_not, List.nil_append, List.length_singleton, List.length_cons, List.length_nil, Nat.zero_add, Nat.add_zero, Nat.mul_one, and_self, beq_iff_eq, Bool.not_true, Bool.not_false, Bool.not_eq_false', Bool.cond_false_right, Bool.and_eq_true, imp_self, Bool.not_eq_true, Bool.cond_true_left, Bool.or_eq_true]
  rintro ⟨a, _⟩ _ ea
  simp only at ea ⊢
  subst ea
  refine ⟨fun h => ⟨h, ?_⟩, fun h => by rw [lcharD, h]; rfl⟩
  rintro ⟨b, _⟩ _ eb
  simp only at eb ⊢
  rw [lcharD, h, eb]; rfl
theorem h35 : c_host_label_1.ok Try.prog GL 35 := con_ok (H := {}) (mkEnv_ok (gl := GL) (l := [(36, conSem c_host_letter), (23, conSem c_host_digit)]) (q := []) (d := []) _ tyOk (by kernel_rfl) ⟨h36.call, h23.call, trivial⟩ trivial trivial) (by kernel_rfl) (by kernel_rfl) (Eq.mp e35 k35)

def t40 : Prop :=
  ∀ (x : Int × Unit),
    Kd.wf (Kd.int IntKind.u8) x.fst ∧ True →
      True →
        True ∧
          (∀ (y : Bool × Unit),
              Kd.wf Kd.bool y.fst ∧ True →
                y.fst = letterD x.fst →
                  (y.fst = false → True) ∧
                    (y.fst = false →
                        (y.fst == false) = true ∧
                          True ∧
                            (∀ (y : Bool × Unit),
                                Kd.wf Kd.bool y.fst ∧ True →
                                  y.fst = digitD x.fst →
                                    (y.fst = false → True) ∧
                                      (y.fst = false → (y.fst == false) = true ∧ True) ∧
                                        (y.fst = false → True) ∧
                                          ((y.fst == false && y.fst == false) = true → decide (x.fst ≠ (0 : Int)) = true → True) ∧
                                            ((y.fst == false && y.fst == false) = true →
                                                decide (x.fst ≠ (0 : Int)) = true →
                                                  (y.fst == false && y.fst == false && decide (x.fst ≠ (0 : Int)) == true) = true ∧
                                                    True ∧
                                                      (∀ (y_1 : Int × Unit),
                                                          Kd.wf (Kd.int IntKind.i64) y_1.fst ∧ True →
                                                            y_1.fst = idxB (bs { data := #[(46 : UInt8), (95 : UInt8), (43 : UInt8), (45 : UInt8)] }) x.fst →
                                                              (y.fst = false → True) ∧
                                                                (y.fst = false → (y.fst == false) = true) ∧ (bif y.fst then true else decide ((0 : Int) ≤ y_1.fst)) = mcharD x.fst) ∧
                                                        True) ∧
                                              ((y.fst == false && y.fst == false) = true →
                                                  decide (x.fst ≠ (0 : Int)) = !true →
                                                    (y.fst = false → True) ∧ (y.fst = false → (y.fst == false) = true) ∧ (bif y.fst then true else false) = mcharD x.fst) ∧
                                                ((y.fst == false && y.fst == false) = false → (y.fst = false → False) ∧ (y.fst = !false → true = mcharD x.fst))) ∧
                              True) ∧
                      (y.fst = !false → true = mcharD x.fst)) ∧
            True
theorem e40 : t40 = Con.vc c_host_local_1 GL (mkEnv ty [(36, conSem c_host_letter), (23, conSem c_host_digit), (41, conSem c_strings_IndexByte)] [] [] [0, 2]) {} Try.f40.ntmps Try.f40.results.toList (bodyOf Try.f40) := by kernel_rfl
theorem k40 : t40 := by
  unfold t40
  rintro ⟨l, _⟩ hx hp
  try dsimp +instances only [dft_int, dft_sl, dft_str]
  simp only [true_and, and_true, eq_self_iff_true, implies_true, reduceCtorEq, false_implies, true_implies, decide_eq_true_eq, decide_eq_false_iff_not, beq_self_eq_true, Bool.not_eq_true', ne_eq, Decidable.not_not, List.nil_append, List.length_singleton, List.length_cons, List.length_nil, Nat.zero_add, Nat.add_zero, Nat.mul_one, and_self, beq_iff_eq, Bool.not_true, Bool.not_false, Bool.not_eq_false', Bool.cond_false_right, Bool.and_eq_true, imp_self, Bool.not_eq_true, Bool.cond_true_left, Bool.or_eq_true]
  have hb : bs { data := #[46, 95, 43, 45] } = [46, 95, 43, 45] := by decide
  have hi : decide (0 ≤ idxB [46, 95, 43, 45] l) = decide (l = 46 ∨ l = 95 ∨ l = 43 ∨ l = 45) := by
    refine decide_eq_decide.2 ((idxB_mem _ _).trans ?_)
    simp
  rw [hb]
  rintro ⟨a, _⟩ _ ea
  simp only at ea ⊢
  subst ea
  refine ⟨fun h => ⟨h, ?_⟩, fun h => by rw [mcharD, h]; rfl⟩
  rintro ⟨b, _⟩ _ eb
  simp only at eb ⊢
  refine ⟨fun h1 h2 => ⟨⟨h1, h2⟩, ?_⟩, fun h1 h2 => ?_, fun h1 => ⟨fun h2 => ?_, fun h2 => ?_⟩⟩
  · rintro ⟨c, _⟩ _ ec
    simp only at ec ⊢
    rw [mcharD, h, ← eb, h1, ec, hi]; rfl
  · subst h2
    rw [mcharD, h, ← eb, h1]; rfl
  · rw [h2] at h1; cases h1
  · rw [mcharD, h, ← eb, h2]; rfl
theorem h40 : c_host_local_1.ok Try.prog GL 40 := con_ok (H := {}) (mkEnv_ok (gl := GL) (l := [(36, conSem c_host_letter), (23, conSem c_host_digit), (41, conSem c_strings_IndexByte)]) (q := []) (d := []) _ tyOk (by kernel_rfl) ⟨h36.call, h23.call, h41.call, trivial⟩ trivial trivial) (by kernel_rfl) (by kernel_rfl) (Eq.mp e40 k40)

noncomputable def i22 : CallSem := vcFn (mkEnv ty [(35, conSem c_host_label_1), (40, conSem c_host_local_1), (23, conSem c_host_digit)] [] [] [0, 1, 4, 5, 7, 8, 9, 16]) {} Try.f22.ntmps Try.f22.results.toList (bodyOf Try.f22)
theorem i22_ok : CallOk Try.prog GL 22 i22 := inl_ok {} (mkEnv_ok (gl := GL) (l := [(35, conSem c_host_label_1), (40, conSem c_host_local_1), (23, conSem c_host_digit)]) (q := []) (d := []) _ tyOk (by kernel_rfl) ⟨h35.call, h40.call, h23.call, trivial⟩ trivial trivial) (by kernel_rfl) (by kernel_rfl)

def t21 : Prop :=
  ∀ (x : List Int × Unit),
    Kd.wf Kd.str x.fst ∧ True →
      List.length x.fst ≤ (1000000000 : Nat) →
        (decide (x.fst = bs { data := #[] }) = false → True) ∧
          (decide (x.fst = bs { data := #[] }) = false → (decide (x.fst = bs { data := #[] }) == false) = true ∧ True) ∧
            (decide (x.fst = bs { data := #[] }) = false → (decide (x.fst = bs { data := #[] }) == false) = true ∧ True) ∧
              (decide (x.fst = bs { data := #[] }) = false → (decide (x.fst = bs { data := #[] }) == false) = true) ∧
                ((bif decide (x.fst = bs { data := #[] }) then true else decide ((63 : Int) < (↑(List.length x.fst) : Int))) = false → True) ∧
                  ((bif decide (x.fst = bs { data := #[] }) then true else decide ((63 : Int) < (↑(List.length x.fst) : Int))) = false →
                      ((bif decide (x.fst = bs { data := #[] }) then true else decide ((63 : Int) < (↑(List.length x.fst) : Int))) == false) = true ∧
                        ((0 : Int) ≤ (0 : Int) ∧ (0 : Int) < (↑(List.length x.fst) : Int)) ∧ True) ∧
                    ((bif decide (x.fst = bs { data := #[] }) then true else decide ((63 : Int) < (↑(List.length x.fst) : Int))) = false →
                        ((bif decide (x.fst = bs { data := #[] }) then true else decide ((63 : Int) < (↑(List.length x.fst) : Int))) == false) = true ∧ True) ∧
                      ((bif decide (x.fst = bs { data := #[] }) then true else decide ((63 : Int) < (↑(List.length x.fst) : Int))) = false →
                          ((bif decide (x.fst = bs { data := #[] }) then true else decide ((63 : Int) < (↑(List.length x.fst) : Int))) == false) = true) ∧
                        ((bif bif decide (x.fst = bs { data := #[] }) then true else decide ((63 : Int) < (↑(List.length x.fst) : Int)) then true
                              else decide (List.getD x.fst (0 : Nat) (0 : Int) = (45 : Int))) =
                              false →
                            True) ∧
                          ((bif bif decide (x.fst = bs { data := #[] }) then true else decide ((63 : Int) < (↑(List.length x.fst) : Int)) then true
                                else decide (List.getD x.fst (0 : Nat) (0 : Int) = (45 : Int))) =
                                false →
                              True) ∧
                            ((bif bif decide (x.fst = bs { data := #[] }) then true else decide ((63 : Int) < (↑(List.length x.fst) : Int)) then true
                                  else decide (List.getD x.fst (0 : Nat) (0 : Int) = (45 : Int))) =
                                  false →
                                ((bif bif decide (x.fst = bs { data := #[] }) then true else decide ((63 : Int) < (↑(List.length x.fst) : Int)) then true
                                      else decide (List.getD x.fst (0 : Nat) (0 : Int) = (45 : Int))) ==
                                      false) =
                                    true ∧
                                  True) ∧
                              ((bif bif decide (x.fst = bs { data := #[] }) then true else decide ((63 : Int) < (↑(List.length x.fst) : Int)) then true
                                    else decide (List.getD x.fst (0 : Nat) (0 : Int) = (45 : Int))) =
                                    false →
                                  ((bif bif decide (x.fst = bs { data := #[] }) then true else decide ((63 : Int) < (↑(List.length x.fst) : Int)) then true
                                        else decide (List.getD x.fst (0 : Nat) (0 : Int) = (45 : Int))) ==
                                        false) =
                                      true ∧
                                    True) ∧
                                ((bif bif decide (x.fst = bs { data := #[] }) then true else decide ((63 : Int) < (↑(List.length x.fst) : Int)) then true
                                      else decide (List.getD x.fst (0 : Nat) (0 : Int) = (45 : Int))) =
                                      false →
                                    ((bif bif decide (x.fst = bs { data := #[] }) then true else decide ((63 : Int) < (↑(List.length x.fst) : Int)) then true
                                          else decide (List.getD x.fst (0 : Nat) (0 : Int) = (45 : Int))) ==
                                          false) =
                                        true ∧
                                      ((bif bif decide (x.fst = bs { data := #[] }) then true else decide ((63 : Int) < (↑(List.length x.fst) : Int)) then true
                                            else decide (List.getD x.fst (0 : Nat) (0 : Int) = (45 : Int))) ==
                                            false) =
                                          true ∧
                                        ((0 : Int) ≤ IntKind.wrap IntKind.i64 ((↑(List.length x.fst) : Int) - (1 : Int)) ∧
                                            IntKind.wrap IntKind.i64 ((↑(List.length x.fst) : Int) - (1 : Int)) < (↑(List.length x.fst) : Int)) ∧
                                          True) ∧
                                  ((bif bif decide (x.fst = bs { data := #[] }) then true else decide ((63 : Int) < (↑(List.length x.fst) : Int)) then true
                                        else decide (List.getD x.fst (0 : Nat) (0 : Int) = (45 : Int))) =
                                        false →
                                      ((bif bif decide (x.fst = bs { data := #[] }) then true else decide ((63 : Int) < (↑(List.length x.fst) : Int)) then true
                                            else decide (List.getD x.fst (0 : Nat) (0 : Int) = (45 : Int))) ==
                                            false) =
                                          true ∧
                                        True) ∧
                                    ((bif bif decide (x.fst = bs { data := #[] }) then true else decide ((63 : Int) < (↑(List.length x.fst) : Int)) then true
                                          else decide (List.getD x.fst (0 : Nat) (0 : Int) = (45 : Int))) =
                                          false →
                                        ((bif bif decide (x.fst = bs { data := #[] }) then true else decide ((63 : Int) < (↑(List.length x.fst) : Int)) then true
                                            else decide (List.getD x.fst (0 : Nat) (0 : Int) = (45 : Int))) ==
                                            false) =
                                          true) ∧
                                      ((bif
                                                bif bif decide (x.fst = bs { data := #[] }) then true else decide ((63 : Int) < (↑(List.length x.fst) : Int)) then true
                                                else decide (List.getD x.fst (0 : Nat) (0 : Int) = (45 : Int)) then
                                              true
                                            else decide (List.getD x.fst (Int.toNat (IntKind.wrap IntKind.i64 ((↑(List.length x.fst) : Int) - (1 : Int)))) (0 : Int) = (45 : Int))) =
                                            true →
                                          false = labelD x.fst) ∧
                                        ((bif
                                                bif bif decide (x.fst = bs { data := #[] }) then true else decide ((63 : Int) < (↑(List.length x.fst) : Int)) then true
                                                else decide (List.getD x.fst (0 : Nat) (0 : Int) = (45 : Int)) then
                                              true
                                            else decide (List.getD x.fst (Int.toNat (IntKind.wrap IntKind.i64 ((↑(List.length x.fst) : Int) - (1 : Int)))) (0 : Int) = (45 : Int))) =
                                            false →
                                          ∃ (I : Int × Bool × Unit → Unit → Prop),
                                            ∃ (μ : Int × Bool × Unit → Unit → Nat),
                                              ((↑(List.length x.fst) : Int) = (↑(List.length x.fst) : Int) ∧
                                                  x.fst = x.fst ∧
                                                    x.fst = x.fst ∧ Value.bool false = Value.bool false ∧ Value.bool false = Value.bool false ∧ x.fst = x.fst ∧ I ((0 : Int), false, ()) ()) ∧
                                                ∀ (y : Int × Bool × Unit) (z : Unit),
                                                  Kd.wf (Kd.int IntKind.i64) y.fst ∧ Kd.wf Kd.bool y.snd.fst ∧ True →
                                                    True →
                                                      I y z →
                                                        (decide (y.fst < (↑(List.length x.fst) : Int)) = true →
                                                            ((0 : Int) ≤ y.fst ∧ y.fst < (↑(List.length x.fst) : Int)) ∧
                                                              True ∧
                                                                (∀ (y_1 : Bool × Unit),
                                                                    Kd.wf Kd.bool y_1.fst ∧ True →
                                                                      y_1.fst = lcharD (List.getD x.fst (Int.toNat y.fst) (0 : Int)) →
                                                                        ((!y_1.fst) = true → false = labelD x.fst) ∧
                                                                          ((!y_1.fst) = false →
                                                                            (↑(List.length x.fst) : Int) = (↑(List.length x.fst) : Int) ∧
                                                                              x.fst = x.fst ∧
                                                                                x.fst = x.fst ∧
                                                                                  Value.bool false = Value.bool false ∧
                                                                                    Value.bool false = Value.bool false ∧
                                                                                      x.fst = x.fst ∧
                                                                                        I (IntKind.wrap IntKind.i64 (y.fst + (1 : Int)), y.snd.fst, ()) () ∧
                                                                                          μ (IntKind.wrap IntKind.i64 (y.fst + (1 : Int)), y.snd.fst, ()) () < μ y z)) ∧
                                                                  True) ∧
                                                          (decide (y.fst < (↑(List.length x.fst) : Int)) = false → true = labelD x.fst))
theorem e21 : t21 = Con.vc c_host_label GL (mkEnv ty [(22, i22)] [] [] [0, 2, 22]) {} Try.f21.ntmps Try.f21.results.toList (bodyOf Try.f21) := by kernel_rfl
theorem k21 : t21 := by
  unfold t21
  rintro ⟨l, _⟩ hx hp
  have hp : l.length ≤ 1000000000 := hp
  try dsimp +instances only [dft_int, dft_sl, dft_str]
  simp only [true_and, and_true, eq_self_iff_true, implies_true, reduceCtorEq, false_implies, true_implies, decide_eq_true_eq, decide_eq_false_iff_not, beq_self_eq_true, Bool.not_eq_true', ne_eq, Decidable.not_not, List.nil_append, List.length_singleton, List.length_cons, List.length_nil, Nat.zero_add, Nat.add_zero, Nat.mul_one, and_self, beq_iff_eq, Bool.not_true, Bool.not_false, Bool.not_eq_false', Bool.cond_false_right, Bool.and_eq_true, imp_self, Bool.not_eq_true, Bool.cond_true_left, Bool.or_eq_true]
  rw [bs_nil]
  have hl0 : l = [] ↔ l.length = 0 := ⟨fun h => by rw [h]; rfl, List.eq_nil_of_length_eq_zero⟩
  have hw : IntKind.wrap .i64 ((l.length : Int) - 1) = l.length - 1 := wrapK _ (by omega) (by omega)
  have ht : ((l.length : Int) - 1).toNat = l.length - 1 := by omega
  rw [hw, ht]
  simp only [hl0, Bool.or_eq_false_iff, decide_eq_false_iff_not]
  refine ⟨fun h => ⟨h, by omega, by omega⟩, fun h => ⟨h, h, by omega, by omega⟩, fun h => ?_, fun h => ?_⟩
  · rw [labelD, decide_eq_false (fun hh => by rw [Ne, hl0] at hh; omega)]; rfl
  · have hl : labelD l = l.all lcharD := by
      rw [labelD, decide_eq_true (by rw [Ne, hl0]; omega)]; rfl
    rw [hl]
    refine ⟨fun y _ => 0 ≤ y.1 ∧ y.1 ≤ l.length ∧ ∀ j, j < y.1.toNat → lcharD (l.getD j 0) = true, fun y _ => ((l.length : Int) - y.1).toNat, ⟨by decide, by omega, fun j hj => by simp at hj⟩, ?_⟩
    rintro ⟨i, b, _⟩ _ _ ⟨i0, i1, i2⟩
    simp only at i0 i1 i2 ⊢
    have hw1 : IntKind.wrap .i64 (i + 1) = i + 1 := wrapK _ (by omega) (by omega)
    rw [hw1]
    refine ⟨fun hlt => ⟨⟨i0, hlt⟩, ?_⟩, fun hge => (all_get _ _ (fun j hj => i2 j (by omega))).symm⟩
    rintro ⟨c, _⟩ _ ec
    simp only at ec ⊢
    refine ⟨fun h => (all_not _ _ i.toNat (by omega) (ec.symm.trans h)).symm, fun h => ⟨⟨by omega, by omega, fun j hj => ?_⟩, by omega⟩⟩
    by_cases hji : j < i.toNat
    · exact i2 j hji
    · rw [show j = i.toNat by omega, ← ec]; exact h
theorem h21 : c_host_label.ok Try.prog GL 21 := con_ok (H := {}) (mkEnv_ok (gl := GL) (l := [(22, i22)]) (q := []) (d := []) _ tyOk (by kernel_rfl) ⟨i22_ok, trivial⟩ trivial trivial) (by kernel_rfl) (by kernel_rfl) (Eq.mp e21 k21)

def t24 : Prop :=
  ∀ (x : List Int × Unit),
    Kd.wf Kd.str x.fst ∧ True →
      List.length x.fst ≤ (1000000000 : Nat) →
        (decide ((↑(List.length x.fst) : Int) < (1 : Int)) = false → True) ∧
          (decide ((↑(List.length x.fst) : Int) < (1 : Int)) = false → (decide ((↑(List.length x.fst) : Int) < (1 : Int)) == false) = true ∧ True) ∧
            (decide ((↑(List.length x.fst) : Int) < (1 : Int)) = false → (decide ((↑(List.length x.fst) : Int) < (1 : Int)) == false) = true ∧ True) ∧
              (decide ((↑(List.length x.fst) : Int) < (1 : Int)) = false → (decide ((↑(List.length x.fst) : Int) < (1 : Int)) == false) = true) ∧
                ((bif decide ((↑(List.length x.fst) : Int) < (1 : Int)) then true else decide ((63 : Int) < (↑(List.length x.fst) : Int))) = true → false = labelD x.fst) ∧
                  ((bif decide ((↑(List.length x.fst) : Int) < (1 : Int)) then true else decide ((63 : Int) < (↑(List.length x.fst) : Int))) = false →
                    ∃ (I : Int × Bool × Unit → Unit → Prop),
                      ∃ (μ : Int × Bool × Unit → Unit → Nat),
                        (Value.bool false = Value.bool false ∧ x.fst = x.fst ∧ I ((0 : Int), false, ()) ()) ∧
                          ∀ (y : Int × Bool × Unit) (z : Unit),
                            Kd.wf (Kd.int IntKind.i64) y.fst ∧ Kd.wf Kd.bool y.snd.fst ∧ True →
                              True →
                                I y z →
                                  (decide (y.fst < (↑(List.length x.fst) : Int)) = true →
                                      ((0 : Int) ≤ y.fst ∧ y.fst < (↑(List.length x.fst) : Int)) ∧
                                        True ∧
                                          (∀ (y_1 : Bool × Unit),
                                              Kd.wf Kd.bool y_1.fst ∧ True →
                                                y_1.fst = letterD (List.getD x.fst (Int.toNat y.fst) (0 : Int)) →
                                                  ((!y_1.fst) = true → True) ∧
                                                    ((!y_1.fst) = true → True) ∧
                                                      ((!y_1.fst) = true →
                                                          ((!y_1.fst) == true) = true ∧ ((!y_1.fst) == true) = true ∧ ((0 : Int) ≤ y.fst ∧ y.fst < (↑(List.length x.fst) : Int)) ∧ True) ∧
                                                        ((!y_1.fst) = true →
                                                            ((!y_1.fst) == true) = true ∧
                                                              True ∧
                                                                (∀ (y_2 : Bool × Unit),
                                                                    Kd.wf Kd.bool y_2.fst ∧ True →
                                                                      y_2.fst = digitD (List.getD x.fst (Int.toNat y.fst) (0 : Int)) →
                                                                        ((!y_2.fst) = true → True) ∧
                                                                          ((!y_2.fst) = true → True) ∧
                                                                            ((!y_2.fst) = true →
                                                                                ((!y_2.fst) == true) = true ∧
                                                                                  ((!y_2.fst) == true) = true ∧ ((0 : Int) ≤ y.fst ∧ y.fst < (↑(List.length x.fst) : Int)) ∧ True) ∧
                                                                              ((!y_2.fst) = true → ((!y_2.fst) == true) = true ∧ True) ∧
                                                                                ((!y_2.fst) = true → True) ∧
                                                                                  (((!y_2.fst) == true && (!y_2.fst) == true) = true →
                                                                                      decide (List.getD x.fst (Int.toNat y.fst) (0 : Int) ≠ (45 : Int)) = false → True) ∧
                                                                                    (((!y_2.fst) == true && (!y_2.fst) == true) = true →
                                                                                        decide (List.getD x.fst (Int.toNat y.fst) (0 : Int) ≠ (45 : Int)) = false →
                                                                                          ((!y_2.fst) == true && (!y_2.fst) == true &&
                                                                                                decide (List.getD x.fst (Int.toNat y.fst) (0 : Int) ≠ (45 : Int)) == false) =
                                                                                              true ∧
                                                                                            True) ∧
                                                                                      ((!y_2.fst) = true →
                                                                                          ((!y_2.fst) == true && (!y_2.fst) == true) = true ∧
                                                                                            (decide (List.getD x.fst (Int.toNat y.fst) (0 : Int) ≠ (45 : Int)) = false →
                                                                                                ((!y_2.fst) == true && (!y_2.fst) == true &&
                                                                                                    decide (List.getD x.fst (Int.toNat y.fst) (0 : Int) ≠ (45 : Int)) == false) =
                                                                                                  true) ∧
                                                                                              True) ∧
                                                                                        ((!y_2.fst) = true → True) ∧
                                                                                          (((!y_2.fst) == true && (!y_2.fst) == true) = true →
                                                                                              (bif decide (List.getD x.fst (Int.toNat y.fst) (0 : Int) ≠ (45 : Int)) then true
                                                                                                  else decide (y.fst = (0 : Int))) =
                                                                                                  false →
                                                                                                True) ∧
                                                                                            (((!y_2.fst) == true && (!y_2.fst) == true) = true →
                                                                                                (bif decide (List.getD x.fst (Int.toNat y.fst) (0 : Int) ≠ (45 : Int)) then true
                                                                                                    else decide (y.fst = (0 : Int))) =
                                                                                                    false →
                                                                                                  True) ∧
                                                                                              (((!y_2.fst) == true && (!y_2.fst) == true) = true →
                                                                                                  (bif decide (List.getD x.fst (Int.toNat y.fst) (0 : Int) ≠ (45 : Int)) then true
                                                                                                      else decide (y.fst = (0 : Int))) =
                                                                                                      false →
                                                                                                    ((!y_2.fst) == true && (!y_2.fst) == true &&
                                                                                                          (bif decide (List.getD x.fst (Int.toNat y.fst) (0 : Int) ≠ (45 : Int)) then true
                                                                                                            else decide (y.fst = (0 : Int))) ==
                                                                                                            false) =
                                                                                                        true ∧
                                                                                                      True) ∧
                                                                                                (((!y_2.fst) == true && (!y_2.fst) == true) = true →
                                                                                                    (bif decide (List.getD x.fst (Int.toNat y.fst) (0 : Int) ≠ (45 : Int)) then true
                                                                                                        else decide (y.fst = (0 : Int))) =
                                                                                                        false →
                                                                                                      ((!y_2.fst) == true && (!y_2.fst) == true &&
                                                                                                            (bif decide (List.getD x.fst (Int.toNat y.fst) (0 : Int) ≠ (45 : Int)) then true
                                                                                                              else decide (y.fst = (0 : Int))) ==
                                                                                                              false) =
                                                                                                          true ∧
                                                                                                        True) ∧
                                                                                                  (((!y_2.fst) == true && (!y_2.fst) == true) = true →
                                                                                                      (bif decide (List.getD x.fst (Int.toNat y.fst) (0 : Int) ≠ (45 : Int)) then true
                                                                                                          else decide (y.fst = (0 : Int))) =
                                                                                                          false →
                                                                                                        ((!y_2.fst) == true && (!y_2.fst) == true &&
                                                                                                              (bif decide (List.getD x.fst (Int.toNat y.fst) (0 : Int) ≠ (45 : Int)) then true
                                                                                                                else decide (y.fst = (0 : Int))) ==
                                                                                                                false) =
                                                                                                            true ∧
                                                                                                          ((!y_2.fst) == true && (!y_2.fst) == true &&
                                                                                                                (bif decide (List.getD x.fst (Int.toNat y.fst) (0 : Int) ≠ (45 : Int)) then true
                                                                                                                  else decide (y.fst = (0 : Int))) ==
                                                                                                                  false) =
                                                                                                              true ∧
                                                                                                            True) ∧
                                                                                                    ((!y_2.fst) = true →
                                                                                                        ((!y_2.fst) == true && (!y_2.fst) == true) = true ∧
                                                                                                          ((bif decide (List.getD x.fst (Int.toNat y.fst) (0 : Int) ≠ (45 : Int)) then true
                                                                                                                else decide (y.fst = (0 : Int))) =
                                                                                                                false →
                                                                                                              ((!y_2.fst) == true && (!y_2.fst) == true &&
                                                                                                                  (bif decide (List.getD x.fst (Int.toNat y.fst) (0 : Int) ≠ (45 : Int)) then true
                                                                                                                    else decide (y.fst = (0 : Int))) ==
                                                                                                                    false) =
                                                                                                                true) ∧
                                                                                                            True) ∧
                                                                                                      ((!y_2.fst) = true → ((!y_2.fst) == true) = true) ∧
                                                                                                        ((bif !y_2.fst then
                                                                                                                bif
                                                                                                                    bif decide (List.getD x.fst (Int.toNat y.fst) (0 : Int) ≠ (45 : Int)) then true
                                                                                                                    else decide (y.fst = (0 : Int)) then
                                                                                                                  true
                                                                                                                else decide (y.fst = IntKind.wrap IntKind.i64 ((↑(List.length x.fst) : Int) - (1 : Int)))
                                                                                                              else false) =
                                                                                                              true →
                                                                                                            false = labelD x.fst) ∧
                                                                                                          ((bif !y_2.fst then
                                                                                                                bif
                                                                                                                    bif decide (List.getD x.fst (Int.toNat y.fst) (0 : Int) ≠ (45 : Int)) then true
                                                                                                                    else decide (y.fst = (0 : Int)) then
                                                                                                                  true
                                                                                                                else decide (y.fst = IntKind.wrap IntKind.i64 ((↑(List.length x.fst) : Int) - (1 : Int)))
                                                                                                              else false) =
                                                                                                              false →
                                                                                                            Value.bool false = Value.bool false ∧
                                                                                                              x.fst = x.fst ∧
                                                                                                                I (IntKind.wrap IntKind.i64 (y.fst + (1 : Int)), y.snd.fst, ()) () ∧
                                                                                                                  μ (IntKind.wrap IntKind.i64 (y.fst + (1 : Int)), y.snd.fst, ()) () < μ y z)) ∧
                                                                  True) ∧
                                                          ((!y_1.fst) = !true →
                                                            Value.bool false = Value.bool false ∧
                                                              x.fst = x.fst ∧
                                                                I (IntKind.wrap IntKind.i64 (y.fst + (1 : Int)), y.snd.fst, ()) () ∧
                                                                  μ (IntKind.wrap IntKind.i64 (y.fst + (1 : Int)), y.snd.fst, ()) () < μ y z)) ∧
                                            True) ∧
                                    (decide (y.fst < (↑(List.length x.fst) : Int)) = false → true = labelD x.fst))
theorem e24 : t24 = Con.vc c_r13_isLabel GL (mkEnv ty [(30, conSem c_r13_letter), (25, conSem c_r13_digit)] [] [] [0, 2, 3, 11, 15, 46]) {} Try.f24.ntmps Try.f24.results.toList (bodyOf Try.f24) := by kernel_rfl
theorem k24 : t24 := by
  unfold t24
  rintro ⟨l, _⟩ hx hp
  have hp : l.length ≤ 1000000000 := hp
  try dsimp +instances only [dft_int, dft_sl, dft_str]
  simp only [true_and, and_true, eq_self_iff_true, implies_true, reduceCtorEq, false_implies, true_implies, decide_eq_true_eq, decide_eq_false_iff_not, beq_self_eq_true, Bool.not_eq_true', ne_eq, Decidable.not_not, List.nil_append, List.length_singleton, List.length_cons, List.length_nil, Nat.zero_add, Nat.add_zero, Nat.mul_one, and_self, beq_iff_eq, Bool.not_true, Bool.not_false, Bool.not_eq_false', Bool.cond_false_right, Bool.and_eq_true, imp_self, Bool.not_eq_true, Bool.cond_true_left, Bool.or_eq_true]
  have hl0 : l = [] ↔ l.length = 0 := ⟨fun h => by rw [h]; rfl, List.eq_nil_of_length_eq_zero⟩
  have hw : IntKind.wrap .i64 ((l.length : Int) - 1) = l.length - 1 := wrapK _ (by omega) (by omega)
  rw [hw]
  simp only [Bool.or_eq_false_iff, decide_eq_false_iff_not, Bool.and_eq_false_iff, Bool.not_eq_false']
  refine ⟨fun h => ?_, fun h => ?_⟩
  · rw [labelD, decide_eq_false (by rw [Ne, hl0]; omega)]; rfl
  · have bad0 : l.getD 0 0 = 45 → labelD l = false := fun e => by rw [labelD, decide_eq_false (fun hh => hh.2.2.1 e)]; rfl
    have bad1 : l.getD (l.length - 1) 0 = 45 → labelD l = false := fun e => by rw [labelD, decide_eq_false (fun hh => hh.2.2.2 e)]; rfl
    have badc : ∀ i, i < l.length → lcharD (l.getD i 0) = false → labelD l = false := fun i hi e => by rw [labelD, all_not _ _ i hi e, Bool.and_false]
    have hgood : (∀ i, i < l.length → lcharD (l.getD i 0) = true) → l.getD 0 0 ≠ 45 → l.getD (l.length - 1) 0 ≠ 45 → labelD l = true := fun h1 h2 h3 => by
      rw [labelD, all_get _ _ h1, decide_eq_true ⟨by rw [Ne, hl0]; omega, by omega, h2, h3⟩]; rfl
    refine ⟨fun y _ => 0 ≤ y.1 ∧ y.1 ≤ l.length ∧ ∀ j, j < y.1.toNat → lcharD (l.getD j 0) = true ∧ (l.getD j 0 = 45 → j ≠ 0 ∧ j ≠ l.length - 1), fun y _ => ((l.length : Int) - y.1).toNat, ⟨by decide, by omega, fun j hj => by simp at hj⟩, ?_⟩
    rintro ⟨i, b, _⟩ _ _ ⟨i0, i1, i2⟩
    simp only at i0 i1 i2 ⊢
    have hw1 : IntKind.wrap .i64 (i + 1) = i + 1 := wrapK _ (by omega) (by omega)
    rw [hw1]
    have next : lcharD (l.getD i.toNat 0) = true → (l.getD i.toNat 0 = 45 → i ≠ 0 ∧ i ≠ l.length - 1) → i < l.length → (0 ≤ i + 1 ∧ i + 1 ≤ l.length ∧ ∀ j, j < (i + 1).toNat → lcharD (l.getD j 0) = true ∧ (l.getD j 0 = 45 → j ≠ 0 ∧ j ≠ l.length - 1)) ∧ ((l.length : Int) - (i + 1)).toNat < ((l.length : Int) - i).toNat := fun h1 h2 h3 => by
      refine ⟨⟨by omega, by omega, fun j hj => ?_⟩, by omega⟩
      by_cases hji : j < i.toNat
      · exact i2 j hji
      · rw [show j = i.toNat by omega]
        refine ⟨h1, fun e => ?_⟩
        have := h2 e
        omega
    refine ⟨fun hlt => ⟨⟨i0, hlt⟩, ?_⟩, fun hge => (hgood (fun j hj => (i2 j (by omega)).1) (fun e => ((i2 0 (by omega)).2 e).1 rfl) (fun e => ((i2 (l.length - 1) (by omega)).2 e).2 rfl)).symm⟩
    rintro ⟨c, _⟩ _ ec
    simp only at ec ⊢
    refine ⟨fun h => ⟨h, h, i0, hlt⟩, fun h => ⟨h, ?_⟩, fun h => next (by rw [lcharD, ← ec, h]; rfl) (fun e => by rw [e] at ec; rw [ec] at h; cases h) hlt⟩
    have hl1 := ec.symm.trans h
    rintro ⟨d, _⟩ _ ed
    simp only at ed ⊢
    refine ⟨fun h => ⟨h, h, i0, hlt⟩, fun h1 h2 => ⟨h1, h2⟩, fun h1 => ⟨h1, fun h2 => ⟨h1, h2⟩⟩, fun h1 h2 => ⟨h1, h2⟩, fun h1 h2 => ⟨h1, h2⟩, fun h1 h2 => ⟨h1, h2⟩, fun h1 => ⟨h1, fun h2 => ⟨h1, h2⟩⟩, fun h1 => ?_, fun h1 => ?_⟩
    · refine Eq.symm ?_
      obtain ⟨h1, h2⟩ := h1
      have hd := ed.symm.trans h1
      rcases h2 with (h2 | h2) | h2
      · exact badc i.toNat (by omega) (by rw [lcharD, hl1, hd, decide_eq_false h2]; rfl)
      · by_cases e : l.getD i.toNat 0 = 45
        · exact bad0 (by rw [h2] at e; exact e)
        · exact badc i.toNat (by omega) (by rw [lcharD, hl1, hd, decide_eq_false e]; rfl)
      · by_cases e : l.getD i.toNat 0 = 45
        · exact bad1 (by rw [h2, show ((l.length : Int) - 1).toNat = l.length - 1 by omega] at e; exact e)
        · exact badc i.toNat (by omega) (by rw [lcharD, hl1, hd, decide_eq_false e]; rfl)
    · rcases h1 with h1 | h1
      · refine next (by rw [lcharD, hl1, ← ed, h1]; rfl) (fun e => ?_) hlt
        rw [e] at ed
        rw [ed] at h1
        cases h1
      · have e : l.getD i.toNat 0 = 45 := Classical.not_not.1 h1.1.1
        exact next (by rw [e]; decide) (fun _ => ⟨h1.1.2, h1.2⟩) hlt
theorem h24 : c_r13_isLabel.ok Try.prog GL 24 := con_ok (H := {}) (mkEnv_ok (gl := GL) (l := [(30, conSem c_r13_letter), (25, conSem c_r13_digit)]) (q := []) (d := []) _ tyOk (by kernel_rfl) ⟨h30.call, h25.call, trivial⟩ trivial trivial) (by kernel_rfl) (by kernel_rfl) (Eq.mp e24 k24)

def t29 : Prop :=
  ∀ (x : List Int × Unit),
    Kd.wf Kd.str x.fst ∧ True →
      List.length x.fst ≤ (1000000000 : Nat) →
        (decide (x.fst = bs { data := #[] }) = false → True) ∧
          (decide (x.fst = bs { data := #[] }) = false → (decide (x.fst = bs { data := #[] }) == false) = true ∧ True) ∧
            (decide (x.fst = bs { data := #[] }) = false → (decide (x.fst = bs { data := #[] }) == false) = true ∧ True) ∧
              (decide (x.fst = bs { data := #[] }) = false → (decide (x.fst = bs { data := #[] }) == false) = true) ∧
                ((bif decide (x.fst = bs { data := #[] }) then true else decide ((64 : Int) < (↑(List.length x.fst) : Int))) = false → True) ∧
                  ((bif decide (x.fst = bs { data := #[] }) then true else decide ((64 : Int) < (↑(List.length x.fst) : Int))) = false →
                      ((bif decide (x.fst = bs { data := #[] }) then true else decide ((64 : Int) < (↑(List.length x.fst) : Int))) == false) = true ∧
                        ((0 : Int) ≤ (0 : Int) ∧ (0 : Int) < (↑(List.length x.fst) : Int)) ∧ True) ∧
                    ((bif decide (x.fst = bs { data := #[] }) then true else decide ((64 : Int) < (↑(List.length x.fst) : Int))) = false →
                        ((bif decide (x.fst = bs { data := #[] }) then true else decide ((64 : Int) < (↑(List.length x.fst) : Int))) == false) = true ∧ True) ∧
                      ((bif decide (x.fst = bs { data := #[] }) then true else decide ((64 : Int) < (↑(List.length x.fst) : Int))) = false →
                          ((bif decide (x.fst = bs { data := #[] }) then true else decide ((64 : Int) < (↑(List.length x.fst) : Int))) == false) = true) ∧
                        ((bif bif decide (x.fst = bs { data := #[] }) then true else decide ((64 : Int) < (↑(List.length x.fst) : Int)) then true
                              else decide (List.getD x.fst (0 : Nat) (0 : Int) = (46 : Int))) =
                              false →
                            True) ∧
                          ((bif bif decide (x.fst = bs { data := #[] }) then true else decide ((64 : Int) < (↑(List.length x.fst) : Int)) then true
                                else decide (List.getD x.fst (0 : Nat) (0 : Int) = (46 : Int))) =
                                false →
                              True) ∧
                            ((bif bif decide (x.fst = bs { data := #[] }) then true else decide ((64 : Int) < (↑(List.length x.fst) : Int)) then true
                                  else decide (List.getD x.fst (0 : Nat) (0 : Int) = (46 : Int))) =
                                  false →
                                ((bif bif decide (x.fst = bs { data := #[] }) then true else decide ((64 : Int) < (↑(List.length x.fst) : Int)) then true
                                      else decide (List.getD x.fst (0 : Nat) (0 : Int) = (46 : Int))) ==
                                      false) =
                                    true ∧
                                  True) ∧
                              ((bif bif decide (x.fst = bs { data := #[] }) then true else decide ((64 : Int) < (↑(List.length x.fst) : Int)) then true
                                    else decide (List.getD x.fst (0 : Nat) (0 : Int) = (46 : Int))) =
                                    false →
                                  ((bif bif decide (x.fst = bs { data := #[] }) then true else decide ((64 : Int) < (↑(List.length x.fst) : Int)) then true
                                        else decide (List.getD x.fst (0 : Nat) (0 : Int) = (46 : Int))) ==
                                        false) =
                                      true ∧
                                    True) ∧
                                ((bif bif decide (x.fst = bs { data := #[] }) then true else decide ((64 : Int) < (↑(List.length x.fst) : Int)) then true
                                      else decide (List.getD x.fst (0 : Nat) (0 : Int) = (46 : Int))) =
                                      false →
                                    ((bif bif decide (x.fst = bs { data := #[] }) then true else decide ((64 : Int) < (↑(List.length x.fst) : Int)) then true
                                          else decide (List.getD x.fst (0 : Nat) (0 : Int) = (46 : Int))) ==
                                          false) =
                                        true ∧
                                      ((bif bif decide (x.fst = bs { data := #[] }) then true else decide ((64 : Int) < (↑(List.length x.fst) : Int)) then true
                                            else decide (List.getD x.fst (0 : Nat) (0 : Int) = (46 : Int))) ==
                                            false) =
                                          true ∧
                                        ((0 : Int) ≤ IntKind.wrap IntKind.i64 ((↑(List.length x.fst) : Int) - (1 : Int)) ∧
                                            IntKind.wrap IntKind.i64 ((↑(List.length x.fst) : Int) - (1 : Int)) < (↑(List.length x.fst) : Int)) ∧
                                          True) ∧
                                  ((bif bif decide (x.fst = bs { data := #[] }) then true else decide ((64 : Int) < (↑(List.length x.fst) : Int)) then true
                                        else decide (List.getD x.fst (0 : Nat) (0 : Int) = (46 : Int))) =
                                        false →
                                      ((bif bif decide (x.fst = bs { data := #[] }) then true else decide ((64 : Int) < (↑(List.length x.fst) : Int)) then true
                                            else decide (List.getD x.fst (0 : Nat) (0 : Int) = (46 : Int))) ==
                                            false) =
                                          true ∧
                                        True) ∧
                                    ((bif bif decide (x.fst = bs { data := #[] }) then true else decide ((64 : Int) < (↑(List.length x.fst) : Int)) then true
                                          else decide (List.getD x.fst (0 : Nat) (0 : Int) = (46 : Int))) =
                                          false →
                                        ((bif bif decide (x.fst = bs { data := #[] }) then true else decide ((64 : Int) < (↑(List.length x.fst) : Int)) then true
                                            else decide (List.getD x.fst (0 : Nat) (0 : Int) = (46 : Int))) ==
                                            false) =
                                          true) ∧
                                      ((bif
                                                bif bif decide (x.fst = bs { data := #[] }) then true else decide ((64 : Int) < (↑(List.length x.fst) : Int)) then true
                                                else decide (List.getD x.fst (0 : Nat) (0 : Int) = (46 : Int)) then
                                              true
                                            else decide (List.getD x.fst (Int.toNat (IntKind.wrap IntKind.i64 ((↑(List.length x.fst) : Int) - (1 : Int)))) (0 : Int) = (46 : Int))) =
                                            false →
                                          True) ∧
                                        ((bif
                                                  bif bif decide (x.fst = bs { data := #[] }) then true else decide ((64 : Int) < (↑(List.length x.fst) : Int)) then true
                                                  else decide (List.getD x.fst (0 : Nat) (0 : Int) = (46 : Int)) then
                                                true
                                              else decide (List.getD x.fst (Int.toNat (IntKind.wrap IntKind.i64 ((↑(List.length x.fst) : Int) - (1 : Int)))) (0 : Int) = (46 : Int))) =
                                              false →
                                            ((bif
                                                      bif bif decide (x.fst = bs { data := #[] }) then true else decide ((64 : Int) < (↑(List.length x.fst) : Int)) then true
                                                      else decide (List.getD x.fst (0 : Nat) (0 : Int) = (46 : Int)) then
                                                    true
                                                  else decide (List.getD x.fst (Int.toNat (IntKind.wrap IntKind.i64 ((↑(List.length x.fst) : Int) - (1 : Int)))) (0 : Int) = (46 : Int))) ==
                                                  false) =
                                                true ∧
                                              List.length x.fst < (4294967281 : Nat) ∧
                                                (∀ (y : Bool × Unit),
                                                    Kd.wf Kd.bool y.fst ∧ True →
                                                      y.fst = decide ((0 : Int) ≤ idxS x.fst (bs { data := #[(46 : UInt8), (46 : UInt8)] })) →
                                                        (y.fst = true → false = localD x.fst) ∧
                                                          (y.fst = false →
                                                            ∃ (I : Int × Bool × Unit → Unit → Prop),
                                                              ∃ (μ : Int × Bool × Unit → Unit → Nat),
                                                                ((↑(List.length x.fst) : Int) = (↑(List.length x.fst) : Int) ∧
                                                                    x.fst = x.fst ∧
                                                                      x.fst = x.fst ∧
                                                                        Value.bool false = Value.bool false ∧ Value.bool false = Value.bool false ∧ x.fst = x.fst ∧ I ((0 : Int), false, ()) ()) ∧
                                                                  ∀ (y : Int × Bool × Unit) (z : Unit),
                                                                    Kd.wf (Kd.int IntKind.i64) y.fst ∧ Kd.wf Kd.bool y.snd.fst ∧ True →
                                                                      True →
                                                                        I y z →
                                                                          (decide (y.fst < (↑(List.length x.fst) : Int)) = true →
                                                                              ((0 : Int) ≤ y.fst ∧ y.fst < (↑(List.length x.fst) : Int)) ∧
                                                                                True ∧
                                                                                  (∀ (y_1 : Bool × Unit),
                                                                                      Kd.wf Kd.bool y_1.fst ∧ True →
                                                                                        y_1.fst = mcharD (List.getD x.fst (Int.toNat y.fst) (0 : Int)) →
                                                                                          ((!y_1.fst) = true → false = localD x.fst) ∧
                                                                                            ((!y_1.fst) = false →
                                                                                              (↑(List.length x.fst) : Int) = (↑(List.length x.fst) : Int) ∧
                                                                                                x.fst = x.fst ∧
                                                                                                  x.fst = x.fst ∧
                                                                                                    Value.bool false = Value.bool false ∧
                                                                                                      Value.bool false = Value.bool false ∧
                                                                                                        x.fst = x.fst ∧
                                                                                                          I (IntKind.wrap IntKind.i64 (y.fst + (1 : Int)), y.snd.fst, ()) () ∧
                                                                                                            μ (IntKind.wrap IntKind.i64 (y.fst + (1 : Int)), y.snd.fst, ()) () < μ y z)) ∧
                                                                                    True) ∧
                                                                            (decide (y.fst < (↑(List.length x.fst) : Int)) = false → true = localD x.fst))) ∧
                                                  True) ∧
                                          ((bif
                                                  bif bif decide (x.fst = bs { data := #[] }) then true else decide ((64 : Int) < (↑(List.length x.fst) : Int)) then true
                                                  else decide (List.getD x.fst (0 : Nat) (0 : Int) = (46 : Int)) then
                                                true
                                              else decide (List.getD x.fst (Int.toNat (IntKind.wrap IntKind.i64 ((↑(List.length x.fst) : Int) - (1 : Int)))) (0 : Int) = (46 : Int))) =
                                              !false →
                                            false = localD x.fst)
theorem e29 : t29 = Con.vc c_host_local GL (mkEnv ty [(22, i22), (27, conSem c_strings_Contains)] [] [] [0, 2, 26]) {} Try.f29.ntmps Try.f29.results.toList (bodyOf Try.f29) := by kernel_rfl
theorem k29 : t29 := by
  unfold t29
  rintro ⟨l, _⟩ hx hp
  have hp : l.length ≤ 1000000000 := hp
  try dsimp +instances only [dft_int, dft_sl, dft_str]
  simp only [true_and, and_true, eq_self_iff_true, implies_true, reduceCtorEq, false_implies, true_implies, decide_eq_true_eq, decide_eq_false_iff_not, beq_self_eq_true, Bool.not_eq_true', ne_eq, Decidable.not_not, List.nil_append, List.length_singleton, List.length_cons, List.length_nil, Nat.zero_add, Nat.add_zero, Nat.mul_one, and_self, beq_iff_eq, Bool.not_true, Bool.not_false, Bool.not_eq_false', Bool.cond_false_right, Bool.and_eq_true, imp_self, Bool.not_eq_true, Bool.cond_true_left, Bool.or_eq_true]
  have hb : bs { data := #[46, 46] } = [46, 46] := by decide
  rw [bs_nil, hb, idxS_dots]
  have hl0 : l = [] ↔ l.length = 0 := ⟨fun h => by rw [h]; rfl, List.eq_nil_of_length_eq_zero⟩
  have hw : IntKind.wrap .i64 ((l.length : Int) - 1) = l.length - 1 := wrapK _ (by omega) (by omega)
  have ht : ((l.length : Int) - 1).toNat = l.length - 1 := by omega
  rw [hw, ht]
  simp only [hl0, Bool.or_eq_false_iff, decide_eq_false_iff_not]
  refine ⟨fun h => ⟨h, by omega, by omega⟩, fun h => ⟨h, h, by omega, by omega⟩, fun h => ⟨h, by omega, ?_⟩, fun h => ?_⟩
  · rintro ⟨a, _⟩ _ ea
    simp only at ea ⊢
    have hl : localD l = (!dotsD l && l.all mcharD) := by
      rw [localD, decide_eq_true (by rw [Ne, hl0]; omega)]; rfl
    rw [hl, ← ea]
    refine ⟨fun h => by rw [h]; rfl, fun h => ?_⟩
    rw [h]
    show ∃ I μ, _
    refine ⟨fun y _ => 0 ≤ y.1 ∧ y.1 ≤ l.length ∧ ∀ j, j < y.1.toNat → mcharD (l.getD j 0) = true, fun y _ => ((l.length : Int) - y.1).toNat, ⟨by decide, by omega, fun j hj => by simp at hj⟩, ?_⟩
    rintro ⟨i, b, _⟩ _ _ ⟨i0, i1, i2⟩
    simp only at i0 i1 i2 ⊢
    have hw1 : IntKind.wrap .i64 (i + 1) = i + 1 := wrapK _ (by omega) (by omega)
    rw [hw1]
    refine ⟨fun hlt => ⟨⟨i0, hlt⟩, ?_⟩, fun hge => (all_get _ _ (fun j hj => i2 j (by omega))).symm⟩
    rintro ⟨c, _⟩ _ ec
    simp only at ec ⊢
    refine ⟨fun h => (all_not _ _ i.toNat (by omega) (ec.symm.trans h)).symm, fun h => ⟨⟨by omega, by omega, fun j hj => ?_⟩, by omega⟩⟩
    by_cases hji : j < i.toNat
    · exact i2 j hji
    · rw [show j = i.toNat by omega, ← ec]; exact h
  · rw [localD, decide_eq_false (fun hh => by rw [Ne, hl0] at hh; omega)]; rfl
theorem h29 : c_host_local.ok Try.prog GL 29 := con_ok (H := {}) (mkEnv_ok (gl := GL) (l := [(22, i22), (27, conSem c_strings_Contains)]) (q := []) (d := []) _ tyOk (by kernel_rfl) ⟨i22_ok, h27.call, trivial⟩ trivial trivial) (by kernel_rfl) (by kernel_rfl) (Eq.mp e29 k29)

noncomputable def i32 : CallSem → CallSem := vcSeq (mkEnv ty [(28, conSem c_strings_Cut)] [] [] [0, 1, 3, 4, 5, 17]) {} Try.f32.ntmps Try.f32.results.toList (bodyOf Try.f32)
theorem i32_ok : SeqOk Try.prog GL 32 i32 := seq_ok {} (mkEnv_ok (gl := GL) (l := [(28, conSem c_strings_Cut)]) (q := []) (d := []) _ tyOk (by kernel_rfl) ⟨h28.call, trivial⟩ trivial trivial) (by kernel_rfl) (by kernel_rfl)

noncomputable def i16 : CallSem := vcFn (mkEnv ty [] [] [] [0, 1, 2]) {} Try.f16.ntmps Try.f16.results.toList (bodyOf Try.f16)
theorem i16_ok : CallOk Try.prog GL 16 i16 := inl_ok {} (mkEnv_ok (gl := GL) (l := []) (q := []) (d := []) _ tyOk (by kernel_rfl) trivial trivial trivial) (by kernel_rfl) (by kernel_rfl)

def t7 : Prop :=
  ∀ (x : List Int × Unit),
    Kd.wf Kd.str x.fst ∧ True →
      List.length x.fst ≤ (1000000000 : Nat) →
        (1 : Nat) ≤ (65536 : Nat) ∧
          (decide ((253 : Int) < (↑(List.length x.fst) : Int)) = true → false = dnsD x.fst) ∧
            (decide ((253 : Int) < (↑(List.length x.fst) : Int)) = false →
              (1 : Nat) ≤ (65536 : Nat) ∧
                List.length [SV.dat Kd.str x.fst] ≤ (65536 : Nat) ∧
                  (List.length x.fst < (4294967281 : Nat) ∧ List.length (bs { data := #[(46 : UInt8)] }) = (1 : Nat)) ∧
                    (∀ (y : List Int × List Int × Bool × Unit),
                        Kd.wf Kd.str y.fst ∧ Kd.wf Kd.str y.snd.fst ∧ Kd.wf Kd.bool y.snd.snd.fst ∧ True →
                          y.fst = (cutD (List.getD (bs { data := #[(46 : UInt8)] }) (0 : Nat) (0 : Int)) x.fst).fst ∧
                              y.snd.fst = (cutD (List.getD (bs { data := #[(46 : UInt8)] }) (0 : Nat) (0 : Int)) x.fst).snd.fst ∧
                                y.snd.snd.fst = (cutD (List.getD (bs { data := #[(46 : UInt8)] }) (0 : Nat) (0 : Int)) x.fst).snd.snd →
                            ∃ (I : Bool × List Int × List Int × Unit → (Bool × Unit) × (List Int × Unit) × (List Int × Unit) × Unit → Prop),
                              ∃ (μ : Bool × List Int × List Int × Unit → (Bool × Unit) × (List Int × Unit) × (List Int × Unit) × Unit → Nat),
                                (Value.bool false = Value.bool false ∧ x.fst = x.fst ∧ I (y.snd.snd.fst, y.snd.fst, y.fst, ()) ((false, ()), (bs { data := #[] }, ()), (x.fst, ()), ())) ∧
                                  ∀ (y : Bool × List Int × List Int × Unit) (z : (Bool × Unit) × (List Int × Unit) × (List Int × Unit) × Unit),
                                    Kd.wf Kd.bool y.fst ∧ Kd.wf Kd.str y.snd.fst ∧ Kd.wf Kd.str y.snd.snd.fst ∧ True →
                                      (Kd.wf Kd.bool z.fst.fst ∧ True) ∧ (Kd.wf Kd.str z.snd.fst.fst ∧ True) ∧ (Kd.wf Kd.str z.snd.snd.fst.fst ∧ True) ∧ True →
                                        I y z →
                                          List.length y.snd.snd.fst ≤ (1000000000 : Nat) ∧
                                            (∀ (y_1 : Bool × Unit),
                                                Kd.wf Kd.bool y_1.fst ∧ True →
                                                  y_1.fst = labelD y.snd.snd.fst →
                                                    ((!y_1.fst) = true → false = dnsD x.fst) ∧
                                                      ((!y_1.fst) = false →
                                                        (y.fst = true →
                                                            (List.length y.snd.fst < (4294967281 : Nat) ∧ List.length (bs { data := #[(46 : UInt8)] }) = (1 : Nat)) ∧
                                                              (∀ (y_2 : List Int × List Int × Bool × Unit),
                                                                  Kd.wf Kd.str y_2.fst ∧ Kd.wf Kd.str y_2.snd.fst ∧ Kd.wf Kd.bool y_2.snd.snd.fst ∧ True →
                                                                    y_2.fst = (cutD (List.getD (bs { data := #[(46 : UInt8)] }) (0 : Nat) (0 : Int)) y.snd.fst).fst ∧
                                                                        y_2.snd.fst = (cutD (List.getD (bs { data := #[(46 : UInt8)] }) (0 : Nat) (0 : Int)) y.snd.fst).snd.fst ∧
                                                                          y_2.snd.snd.fst = (cutD (List.getD (bs { data := #[(46 : UInt8)] }) (0 : Nat) (0 : Int)) y.snd.fst).snd.snd →
                                                                      Value.bool false = Value.bool false ∧
                                                                        x.fst = x.fst ∧
                                                                          I (y_2.snd.snd.fst, y_2.snd.fst, y_2.fst, ()) ((z.fst.fst, ()), (y.snd.snd.fst, ()), (z.snd.snd.fst.fst, ()), ()) ∧
                                                                            μ (y_2.snd.snd.fst, y_2.snd.fst, y_2.fst, ()) ((z.fst.fst, ()), (y.snd.snd.fst, ()), (z.snd.snd.fst.fst, ()), ()) < μ y z) ∧
                                                                True) ∧
                                                          (y.fst = false →
                                                            ∃ (I : Int × Bool × Unit → (Bool × Unit) × (List Int × Unit) × (List Int × Unit) × Unit → Prop),
                                                              ∃ (μ : Int × Bool × Unit → (Bool × Unit) × (List Int × Unit) × (List Int × Unit) × Unit → Nat),
                                                                ((↑(List.length y.snd.snd.fst) : Int) = (↑(List.length y.snd.snd.fst) : Int) ∧
                                                                    y.snd.snd.fst = y.snd.snd.fst ∧
                                                                      y.snd.snd.fst = y.snd.snd.fst ∧
                                                                        Value.bool false = Value.bool false ∧
                                                                          x.fst = x.fst ∧ I ((0 : Int), false, ()) ((z.fst.fst, ()), (y.snd.snd.fst, ()), (z.snd.snd.fst.fst, ()), ())) ∧
                                                                  ∀ (y_2 : Int × Bool × Unit) (z : (Bool × Unit) × (List Int × Unit) × (List Int × Unit) × Unit),
                                                                    Kd.wf (Kd.int IntKind.i64) y_2.fst ∧ Kd.wf Kd.bool y_2.snd.fst ∧ True →
                                                                      (Kd.wf Kd.bool z.fst.fst ∧ True) ∧ (Kd.wf Kd.str z.snd.fst.fst ∧ True) ∧ (Kd.wf Kd.str z.snd.snd.fst.fst ∧ True) ∧ True →
                                                                        I y_2 z →
                                                                          (decide (y_2.fst < (↑(List.length y.snd.snd.fst) : Int)) = true →
                                                                              ((0 : Int) ≤ y_2.fst ∧ y_2.fst < (↑(List.length y.snd.snd.fst) : Int)) ∧
                                                                                True ∧
                                                                                  (∀ (y_3 : Bool × Unit),
                                                                                      Kd.wf Kd.bool y_3.fst ∧ True →
                                                                                        y_3.fst = digitD (List.getD y.snd.snd.fst (Int.toNat y_2.fst) (0 : Int)) →
                                                                                          ((!y_3.fst) = true → (!false) = dnsD x.fst) ∧
                                                                                            ((!y_3.fst) = false →
                                                                                              (↑(List.length y.snd.snd.fst) : Int) = (↑(List.length y.snd.snd.fst) : Int) ∧
                                                                                                y.snd.snd.fst = y.snd.snd.fst ∧
                                                                                                  y.snd.snd.fst = y.snd.snd.fst ∧
                                                                                                    Value.bool false = Value.bool false ∧
                                                                                                      x.fst = x.fst ∧
                                                                                                        I (IntKind.wrap IntKind.i64 (y_2.fst + (1 : Int)), y_2.snd.fst, ())
                                                                                                            ((z.fst.fst, ()), (z.snd.fst.fst, ()), (z.snd.snd.fst.fst, ()), ()) ∧
                                                                                                          μ (IntKind.wrap IntKind.i64 (y_2.fst + (1 : Int)), y_2.snd.fst, ())
                                                                                                              ((z.fst.fst, ()), (z.snd.fst.fst, ()), (z.snd.snd.fst.fst, ()), ()) <
                                                                                                            μ y_2 z)) ∧
                                                                                    True) ∧
                                                                            (decide (y_2.fst < (↑(List.length y.snd.snd.fst) : Int)) = false → (!true) = dnsD x.fst)))) ∧
                                              True) ∧
                      True)
theorem e7 : t7 = Con.vc c_host_DNS GL (mkEnv ty [(16, i16), (21, conSem c_host_label), (22, i22)] [(32, i32)] [] [0, 2, 3, 4, 7, 9, 10, 13]) {} Try.f7.ntmps Try.f7.results.toList (bodyOf Try.f7) := by kernel_rfl
theorem k7 : t7 := by
  unfold t7
  rintro ⟨l, _⟩ hx hp
  have hp : l.length ≤ 1000000000 := hp
  try dsimp +instances only [dft_int, dft_sl, dft_str]
  simp only [true_and, and_true, eq_self_iff_true, implies_true, reduceCtorEq, false_implies, true_implies, decide_eq_true_eq, decide_eq_false_iff_not, beq_self_eq_true, Bool.not_eq_true', ne_eq, Decidable.not_not, List.nil_append, List.length_singleton, List.length_cons, List.length_nil, Nat.zero_add, Nat.add_zero, Nat.mul_one, and_self, beq_iff_eq, Bool.not_true, Bool.not_false, Bool.not_eq_false', Bool.cond_false_right, Bool.and_eq_true, imp_self, Bool.not_eq_true, Bool.cond_true_left, Bool.or_eq_true]
  have hb : bs { data := #[46] } = [46] := by decide
  have hd : ([46] : List Int).getD 0 0 = 46 := rfl
  rw [hb, hd, bs_nil]
  refine ⟨by decide, fun h => (dns_long (by omega)).symm, fun hn => ⟨by decide, by decide, ⟨by omega, rfl⟩, ?_⟩⟩
  rintro ⟨wd, rest, more, _⟩ _ ⟨e1, e2, e3⟩
  simp only at e1 e2 e3 ⊢
  have hcl := cutD_len l 46
  refine ⟨fun y _ => y.2.2.1.length ≤ l.length ∧ y.2.1.length ≤ l.length ∧ ∃ P, P.all labelD = true ∧ labelsD l = P ++ (y.2.2.1 :: if y.1 then labelsD y.2.1 else []), fun y _ => if y.1 then y.2.1.length + 1 else 0,
    ⟨by rw [e1]; exact hcl.1, by rw [e2]; exact hcl.2, [], rfl, by rw [e1, e2, e3]; exact labels_cut l⟩, ?_⟩
  rintro ⟨mo, re, w, _⟩ ⟨⟨z1, _⟩, ⟨z2, _⟩, ⟨z3, _⟩, _⟩ _ _ ⟨w1, w2, P, hP, hW⟩
  simp only at w1 w2 hW ⊢
  refine ⟨by omega, ?_⟩
  rintro ⟨b, _⟩ _ eb
  simp only at eb ⊢
  refine ⟨fun h => (dns_bad (w := w) (by rw [hW]; simp) (eb.symm.trans h)).symm, fun h => ⟨fun hm => ⟨⟨by omega, rfl⟩, ?_⟩, fun hm => ?_⟩⟩
  · rintro ⟨wd', re', mo', _⟩ _ ⟨f1, f2, f3⟩
    simp only at f1 f2 f3 ⊢
    have hcl := cutD_len re 46
    have hj := congrArg List.length (cutD_join re 46)
    rw [← f1, ← f2, ← f3] at hj
    rw [← f1, ← f2] at hcl
    refine ⟨⟨by omega, by omega, P ++ [w], ?_, ?_⟩, ?_⟩
    · rw [List.all_append, hP]
      simp [← eb, h]
    · rw [hW, hm, f1, f2, f3]
      simp only [if_true]
      rw [labels_cut re, List.append_assoc]
      rfl
    · rw [hm]
      simp only [if_true]
      split
      · rename_i hmo
        rw [hmo] at hj
        simp at hj
        omega
      · omega
  · have hWe : labelsD l = P ++ [w] := by rw [hW, hm]; rfl
    have hdn : dnsD l = !w.all digitD := by
      rw [dns_last (by omega) (by rw [hWe, List.all_append, hP]; simp [← eb, h]), hWe, last_snoc]
    rw [hdn]
    refine ⟨fun y _ => 0 ≤ y.1 ∧ y.1 ≤ w.length ∧ ∀ j, j < y.1.toNat → digitD (w.getD j 0) = true, fun y _ => ((w.length : Int) - y.1).toNat, ⟨Int.le_refl 0, by simp only; omega, fun j hj => by simp at hj⟩, ?_⟩
    rintro ⟨i, b2, _⟩ z _ _ ⟨i0, i1, i2⟩
    simp only at i0 i1 i2 ⊢
    have hw1 : IntKind.wrap .i64 (i + 1) = i + 1 := wrapK _ (by omega) (by omega)
    rw [hw1]
    refine ⟨fun hlt => ⟨⟨i0, hlt⟩, ?_⟩, fun hge => by rw [all_get _ _ (fun j hj => i2 j (by omega))]; rfl⟩
    rintro ⟨c, _⟩ _ ec
    simp only at ec ⊢
    refine ⟨fun h => by rw [all_not _ _ i.toNat (by omega) (ec.symm.trans h)]; rfl, fun h => ⟨⟨by omega, by omega, fun j hj => ?_⟩, by omega⟩⟩
    by_cases hji : j < i.toNat
    · exact i2 j hji
    · rw [show j = i.toNat by omega, ← ec]; exact h
theorem h7 : c_host_DNS.ok Try.prog GL 7 := con_ok (H := {}) (mkEnv_ok (gl := GL) (l := [(16, i16), (21, conSem c_host_label), (22, i22)]) (q := [(32, i32)]) (d := []) _ tyOk (by kernel_rfl) ⟨i16_ok, h21.call, i22_ok, trivial⟩ ⟨i32_ok, trivial⟩ trivial) (by kernel_rfl) (by kernel_rfl) (Eq.mp e7 k7)

def t17 : Prop :=
  ∀ (x : List Int × Unit),
    Kd.wf Kd.str x.fst ∧ True →
      List.length x.fst ≤ (1000000000 : Nat) →
        ∃ (I : Int × Int × Unit → List (List Int) × Unit → Prop),
          ∃ (μ : Int × Int × Unit → List (List Int) × Unit → Nat),
            (Value.slice none (0 : Nat) (0 : Nat) = Value.slice none (0 : Nat) (0 : Nat) ∧ x.fst = x.fst ∧ I ((0 : Int), (0 : Int), ()) ([], ())) ∧
              ∀ (y : Int × Int × Unit) (z : List (List Int) × Unit),
                Kd.wf (Kd.int IntKind.i64) y.fst ∧ Kd.wf (Kd.int IntKind.i64) y.snd.fst ∧ True →
                  Kd.wf (Kd.sl Kd.str) z.fst ∧ True →
                    I y z →
                      (decide (y.fst < (↑(List.length x.fst) : Int)) = true →
                          ((0 : Int) ≤ y.fst ∧ y.fst < (↑(List.length x.fst) : Int)) ∧
                            (decide (List.getD x.fst (Int.toNat y.fst) (0 : Int) = (46 : Int)) = true →
                                ((0 : Int) ≤ y.snd.fst ∧ y.snd.fst ≤ y.fst ∧ y.fst ≤ (↑(List.length x.fst) : Int)) ∧
                                  (0 : Nat) < (1 : Nat) ∧
                                    (List.length z.fst + List.length [List.drop (Int.toNat y.snd.fst) (List.take (Int.toNat y.fst) x.fst)]) * (16 : Nat) ≤ (140737488355328 : Nat) ∧
                                      List.length z.fst + List.length [List.drop (Int.toNat y.snd.fst) (List.take (Int.toNat y.fst) x.fst)] ≤ (9223372036854775807 : Nat) ∧
                                        Value.slice none (0 : Nat) (0 : Nat) = Value.slice none (0 : Nat) (0 : Nat) ∧
                                          x.fst = x.fst ∧
                                            I (IntKind.wrap IntKind.i64 (y.fst + (1 : Int)), IntKind.wrap IntKind.i64 (y.fst + (1 : Int)), ())
                                                (z.fst ++ [List.drop (Int.toNat y.snd.fst) (List.take (Int.toNat y.fst) x.fst)], ()) ∧
                                              μ (IntKind.wrap IntKind.i64 (y.fst + (1 : Int)), IntKind.wrap IntKind.i64 (y.fst + (1 : Int)), ())
                                                  (z.fst ++ [List.drop (Int.toNat y.snd.fst) (List.take (Int.toNat y.fst) x.fst)], ()) <
                                                μ y z) ∧
                              (decide (List.getD x.fst (Int.toNat y.fst) (0 : Int) = (46 : Int)) = false →
                                Value.slice none (0 : Nat) (0 : Nat) = Value.slice none (0 : Nat) (0 : Nat) ∧
                                  x.fst = x.fst ∧
                                    I (IntKind.wrap IntKind.i64 (y.fst + (1 : Int)), y.snd.fst, ()) (z.fst, ()) ∧ μ (IntKind.wrap IntKind.i64 (y.fst + (1 : Int)), y.snd.fst, ()) (z.fst, ()) < μ y z)) ∧
                        (decide (y.fst < (↑(List.length x.fst) : Int)) = false →
                          ((0 : Int) ≤ y.snd.fst ∧ y.snd.fst ≤ (↑(List.length x.fst) : Int)) ∧
                            (0 : Nat) < (1 : Nat) ∧
                              (List.length z.fst + List.length [List.drop (Int.toNat y.snd.fst) x.fst]) * (16 : Nat) ≤ (140737488355328 : Nat) ∧
                                List.length z.fst + List.length [List.drop (Int.toNat y.snd.fst) x.fst] ≤ (9223372036854775807 : Nat) ∧ z.fst ++ [List.drop (Int.toNat y.snd.fst) x.fst] = labelsD x.fst)
theorem e17 : t17 = Con.vc c_r13_Labels GL (mkEnv ty [] [] [] [0, 2, 3, 4, 5, 9, 15]) {} Try.f17.ntmps Try.f17.results.toList (bodyOf Try.f17) := by kernel_rfl
theorem k17 : t17 := by
  unfold t17
  rintro ⟨l, _⟩ hx hp
  have hp : l.length ≤ 1000000000 := hp
  try dsimp +instances only [dft_int, dft_sl, dft_str]
  simp only [true_and, and_true, eq_self_iff_true, implies_true, reduceCtorEq, false_implies, true_implies, decide_eq_true_eq, decide_eq_false_iff_not, beq_self_eq_true, Bool.not_eq_true', ne_eq, Decidable.not_not, List.nil_append, List.length_singleton, List.length_cons, List.length_nil, Nat.zero_add, Nat.add_zero, Nat.mul_one, and_self, beq_iff_eq, Bool.not_true, Bool.not_false, Bool.not_eq_false', Bool.cond_false_right, Bool.and_eq_true, imp_self, Bool.not_eq_true, Bool.cond_true_left, Bool.or_eq_true]
  refine ⟨fun y z => 0 ≤ y.2.1 ∧ y.2.1 ≤ y.1 ∧ y.1 ≤ l.length ∧ (z.1.length : Int) ≤ y.1 ∧ labelsD l = z.1 ++ splitA 46 ((l.take y.1.toNat).drop y.2.1.toNat) (l.drop y.1.toNat), fun y _ => ((l.length : Int) - y.1).toNat, ⟨Int.le_refl 0, Int.le_refl 0, by simp only; omega, by simp, rfl⟩, ?_⟩
  rintro ⟨i, f, _⟩ ⟨z, _⟩ _ _ ⟨f0, f1, i1, z1, hW⟩
  simp only at f0 f1 i1 z1 hW ⊢
  have hw1 : IntKind.wrap .i64 (i + 1) = i + 1 := wrapK _ (by omega) (by omega)
  rw [hw1]
  refine ⟨fun hlt => ⟨⟨by omega, hlt⟩, fun hc => ⟨⟨f0, f1, i1⟩, by decide, by omega, by omega, ⟨by omega, by omega, by omega, by simp; omega, ?_⟩, by omega⟩, fun hc => ⟨⟨f0, by omega, by omega, by omega, ?_⟩, by omega⟩⟩, fun hge => ⟨⟨f0, by omega⟩, by decide, by omega, by omega, ?_⟩⟩
  · rw [hW, drop_cons l i.toNat (by omega), hc, splitA, if_pos rfl, List.append_assoc, show (i + 1).toNat = i.toNat + 1 by omega, List.drop_of_length_le (by simp; omega : (l.take (i.toNat + 1)).length ≤ i.toNat + 1)]
    rfl
  · rw [hW, drop_cons l i.toNat (by omega), splitA, if_neg hc, show (i + 1).toNat = i.toNat + 1 by omega, take_snoc l i.toNat (by omega), List.drop_append_of_le_length (by simp; omega)]
  · rw [hW, List.drop_of_length_le (by omega : l.length ≤ i.toNat), List.take_of_length_le (by omega : l.length ≤ i.toNat)]
    rfl
theorem h17 : c_r13_Labels.ok Try.prog GL 17 := con_ok (H := {}) (mkEnv_ok (gl := GL) (l := []) (q := []) (d := []) _ tyOk (by kernel_rfl) trivial trivial trivial) (by kernel_rfl) (by kernel_rfl) (Eq.mp e17 k17)

def t8 : Prop :=
  ∀ (x : List Int × Unit),
    Kd.wf Kd.str x.fst ∧ True →
      List.length x.fst ≤ (1000000000 : Nat) →
        (decide ((253 : Int) < (↑(List.length x.fst) : Int)) = true → false = dnsD x.fst) ∧
          (decide ((253 : Int) < (↑(List.length x.fst) : Int)) = false →
            List.length x.fst ≤ (1000000000 : Nat) ∧
              (∀ (y : List (List Int) × Unit),
                  Kd.wf (Kd.sl Kd.str) y.fst ∧ True →
                    y.fst = labelsD x.fst →
                      ∃ (I : Int × Bool × Unit → Unit → Prop),
                        ∃ (μ : Int × Bool × Unit → Unit → Nat),
                          (Value.bool false = Value.bool false ∧ x.fst = x.fst ∧ y.fst = y.fst ∧ I ((0 : Int), false, ()) ()) ∧
                            ∀ (y_1 : Int × Bool × Unit) (z : Unit),
                              Kd.wf (Kd.int IntKind.i64) y_1.fst ∧ Kd.wf Kd.bool y_1.snd.fst ∧ True →
                                True →
                                  I y_1 z →
                                    (decide (y_1.fst < (↑(List.length y.fst) : Int)) = true →
                                        ((0 : Int) ≤ y_1.fst ∧ y_1.fst < (↑(List.length y.fst) : Int)) ∧
                                          List.length (List.getD y.fst (Int.toNat y_1.fst) (Kd.dft Kd.str)) ≤ (1000000000 : Nat) ∧
                                            (∀ (y_2 : Bool × Unit),
                                                Kd.wf Kd.bool y_2.fst ∧ True →
                                                  y_2.fst = labelD (List.getD y.fst (Int.toNat y_1.fst) (Kd.dft Kd.str)) →
                                                    ((!y_2.fst) = true → false = dnsD x.fst) ∧
                                                      ((!y_2.fst) = false →
                                                        Value.bool false = Value.bool false ∧
                                                          x.fst = x.fst ∧
                                                            y.fst = y.fst ∧
                                                              I (IntKind.wrap IntKind.i64 (y_1.fst + (1 : Int)), y_1.snd.fst, ()) () ∧
                                                                μ (IntKind.wrap IntKind.i64 (y_1.fst + (1 : Int)), y_1.snd.fst, ()) () < μ y_1 z)) ∧
                                              True) ∧
                                      (decide (y_1.fst < (↑(List.length y.fst) : Int)) = false →
                                        ((0 : Int) ≤ IntKind.wrap IntKind.i64 ((↑(List.length y.fst) : Int) - (1 : Int)) ∧
                                            IntKind.wrap IntKind.i64 ((↑(List.length y.fst) : Int) - (1 : Int)) < (↑(List.length y.fst) : Int)) ∧
                                          ∃ (I : Int × Bool × Unit → Unit → Prop),
                                            ∃ (μ : Int × Bool × Unit → Unit → Nat),
                                              (List.getD y.fst (Int.toNat (IntKind.wrap IntKind.i64 ((↑(List.length y.fst) : Int) - (1 : Int)))) (Kd.dft Kd.str) =
                                                    List.getD y.fst (Int.toNat (IntKind.wrap IntKind.i64 ((↑(List.length y.fst) : Int) - (1 : Int)))) (Kd.dft Kd.str) ∧
                                                  Value.bool false = Value.bool false ∧
                                                    y_1.fst = y_1.fst ∧ Value.bool false = Value.bool false ∧ x.fst = x.fst ∧ y.fst = y.fst ∧ I ((0 : Int), y_1.snd.fst, ()) ()) ∧
                                                ∀ (y_2 : Int × Bool × Unit) (z : Unit),
                                                  Kd.wf (Kd.int IntKind.i64) y_2.fst ∧ Kd.wf Kd.bool y_2.snd.fst ∧ True →
                                                    True →
                                                      I y_2 z →
                                                        (decide
                                                                (y_2.fst <
                                                                  (↑(List.length (List.getD y.fst (Int.toNat (IntKind.wrap IntKind.i64 ((↑(List.length y.fst) : Int) - (1 : Int)))) (Kd.dft Kd.str))) :
                                                                    Int)) =
                                                              true →
                                                            ((0 : Int) ≤ y_2.fst ∧
                                                                y_2.fst <
                                                                  (↑(List.length (List.getD y.fst (Int.toNat (IntKind.wrap IntKind.i64 ((↑(List.length y.fst) : Int) - (1 : Int)))) (Kd.dft Kd.str))) :
                                                                    Int)) ∧
                                                              True ∧
                                                                (∀ (y_3 : Bool × Unit),
                                                                    Kd.wf Kd.bool y_3.fst ∧ True →
                                                                      y_3.fst =
                                                                          digitD
                                                                            (List.getD (List.getD y.fst (Int.toNat (IntKind.wrap IntKind.i64 ((↑(List.length y.fst) : Int) - (1 : Int)))) (Kd.dft Kd.str))
                                                                              (Int.toNat y_2.fst) (0 : Int)) →
                                                                        ((!y_3.fst) = true → true = dnsD x.fst) ∧
                                                                          ((!y_3.fst) = false →
                                                                            List.getD y.fst (Int.toNat (IntKind.wrap IntKind.i64 ((↑(List.length y.fst) : Int) - (1 : Int)))) (Kd.dft Kd.str) =
                                                                                List.getD y.fst (Int.toNat (IntKind.wrap IntKind.i64 ((↑(List.length y.fst) : Int) - (1 : Int)))) (Kd.dft Kd.str) ∧
                                                                              Value.bool false = Value.bool false ∧
                                                                                y_1.fst = y_1.fst ∧
                                                                                  Value.bool false = Value.bool false ∧
                                                                                    x.fst = x.fst ∧
                                                                                      y.fst = y.fst ∧
                                                                                        I (IntKind.wrap IntKind.i64 (y_2.fst + (1 : Int)), y_2.snd.fst, ()) () ∧
                                                                                          μ (IntKind.wrap IntKind.i64 (y_2.fst + (1 : Int)), y_2.snd.fst, ()) () < μ y_2 z)) ∧
                                                                  True) ∧
                                                          (decide
                                                                (y_2.fst <
                                                                  (↑(List.length (List.getD y.fst (Int.toNat (IntKind.wrap IntKind.i64 ((↑(List.length y.fst) : Int) - (1 : Int)))) (Kd.dft Kd.str))) :
                                                                    Int)) =
                                                              false →
                                                            false = dnsD x.fst))) ∧
                True)
theorem e8 : t8 = Con.vc c_r13_DNS GL (mkEnv ty [(17, conSem c_r13_Labels), (24, conSem c_r13_isLabel), (25, conSem c_r13_digit)] [] [] [0, 2, 3, 4, 5, 6, 9, 15, 23, 33, 40]) {} Try.f8.ntmps Try.f8.results.toList (bodyOf Try.f8) := by kernel_rfl
theorem k8 : t8 := by
  unfold t8
  rintro ⟨l, _⟩ hx hp
  have hp : l.length ≤ 1000000000 := hp
  try dsimp +instances only [dft_int, dft_sl, dft_str]
  simp only [true_and, and_true, eq_self_iff_true, implies_true, reduceCtorEq, false_implies, true_implies, decide_eq_true_eq, decide_eq_false_iff_not, beq_self_eq_true, Bool.not_eq_true', ne_eq, Decidable.not_not, List.nil_append, List.length_singleton, List.length_cons, List.length_nil, Nat.zero_add, Nat.add_zero, Nat.mul_one, and_self, beq_iff_eq, Bool.not_true, Bool.not_false, Bool.not_eq_false', Bool.cond_false_right, Bool.and_eq_true, imp_self, Bool.not_eq_true, Bool.cond_true_left, Bool.or_eq_true]
  refine ⟨fun h => (dns_long (by omega)).symm, fun hn => ⟨hp, ?_⟩⟩
  rintro ⟨W, _⟩ _ eW
  simp only at eW ⊢
  have hWl := labels_len l
  rw [← eW] at hWl
  have hmem : ∀ i, i < W.length → W.getD i [] ∈ labelsD l := fun i hi => by rw [← eW]; exact mem_getD [] W i hi
  refine ⟨fun y _ => 0 ≤ y.1 ∧ y.1 ≤ W.length ∧ ∀ j, j < y.1.toNat → labelD (W.getD j []) = true, fun y _ => ((W.length : Int) - y.1).toNat, ⟨Int.le_refl 0, by simp only; omega, fun j hj => by simp at hj⟩, ?_⟩
  rintro ⟨i, b, _⟩ _ _ ⟨i0, i1, i2⟩
  simp only at i0 i1 i2 ⊢
  have hw1 : IntKind.wrap .i64 (i + 1) = i + 1 := wrapK _ (by omega) (by omega)
  have hw2 : IntKind.wrap .i64 ((W.length : Int) - 1) = W.length - 1 := wrapK _ (by omega) (by omega)
  have hw3 : ((W.length : Int) - 1).toNat = W.length - 1 := by omega
  rw [hw1, hw2, hw3]
  refine ⟨fun hlt => ⟨⟨i0, hlt⟩, ?_, ?_⟩, fun hge => ⟨⟨by omega, by omega⟩, ?_⟩⟩
  · have := label_len (hmem i.toNat (by omega))
    omega
  · rintro ⟨c, _⟩ _ ec
    simp only at ec ⊢
    refine ⟨fun h => (dns_bad (hmem i.toNat (by omega)) (ec.symm.trans h)).symm, fun h => ⟨⟨by omega, by omega, fun j hj => ?_⟩, by omega⟩⟩
    by_cases hji : j < i.toNat
    · exact i2 j hji
    · rw [show j = i.toNat by omega, ← ec]; exact h
  · have hdn : dnsD l = !(W.getD (W.length - 1) []).all digitD := by
      rw [dns_last (by omega) (by rw [← eW]; exact all_getA [] _ _ (fun j hj => i2 j (by omega))), ← eW, last_get W hWl.2]
    rw [hdn]
    have hll := label_len (hmem (W.length - 1) (by omega))
    generalize W.getD (W.length - 1) [] = w at hll ⊢
    refine ⟨fun y _ => 0 ≤ y.1 ∧ y.1 ≤ w.length ∧ ∀ j, j < y.1.toNat → digitD (w.getD j 0) = true, fun y _ => ((w.length : Int) - y.1).toNat, ⟨Int.le_refl 0, by simp only; omega, fun j hj => by simp at hj⟩, ?_⟩
    rintro ⟨i, b2, _⟩ z _ ⟨i0, i1, i2⟩
    simp only at i0 i1 i2 ⊢
    have hw1 : IntKind.wrap .i64 (i + 1) = i + 1 := wrapK _ (by omega) (by omega)
    rw [hw1]
    refine ⟨fun hlt => ⟨⟨i0, hlt⟩, ?_⟩, fun hge => by rw [all_get _ _ (fun j hj => i2 j (by omega))]; rfl⟩
    rintro ⟨c, _⟩ _ ec
    simp only at ec ⊢
    refine ⟨fun h => by rw [all_not _ _ i.toNat (by omega) (ec.symm.trans h)]; rfl, fun h => ⟨⟨by omega, by omega, fun j hj => ?_⟩, by omega⟩⟩
    by_cases hji : j < i.toNat
    · exact i2 j hji
    · rw [show j = i.toNat by omega, ← ec]; exact h
theorem h8 : c_r13_DNS.ok Try.prog GL 8 := con_ok (H := {}) (mkEnv_ok (gl := GL) (l := [(17, conSem c_r13_Labels), (24, conSem c_r13_isLabel), (25, conSem c_r13_digit)]) (q := []) (d := []) _ tyOk (by kernel_rfl) ⟨h17.call, h24.call, h25.call, trivial⟩ trivial trivial) (by kernel_rfl) (by kernel_rfl) (Eq.mp e8 k8)

def t9 : Prop :=
  ∀ (x : List Int × Unit),
    Kd.wf Kd.str x.fst ∧ True →
      List.length x.fst ≤ (1000000000 : Nat) →
        True ∧
          (∀ (y : List Int × Bool × Unit),
              Kd.wf Kd.str y.fst ∧ Kd.wf Kd.bool y.snd.fst ∧ True →
                (y.fst = if hasP (bs { data := #[(42 : UInt8), (46 : UInt8)] }) x.fst = true then List.drop (List.length (bs { data := #[(42 : UInt8), (46 : UInt8)] })) x.fst else x.fst) ∧
                    y.snd.fst = hasP (bs { data := #[(42 : UInt8), (46 : UInt8)] }) x.fst →
                  (y.snd.fst = true → True) ∧
                    (y.snd.fst = true → (y.snd.fst == true) = true ∧ True) ∧
                      (y.snd.fst = true → (y.snd.fst == true) = true ∧ True) ∧
                        (y.snd.fst = true → (y.snd.fst == true) = true) ∧
                          ((bif y.snd.fst then decide ((↑(List.length x.fst) : Int) ≤ (253 : Int)) else false) = true → True) ∧
                            ((bif y.snd.fst then decide ((↑(List.length x.fst) : Int) ≤ (253 : Int)) else false) = true →
                                ((bif y.snd.fst then decide ((↑(List.length x.fst) : Int) ≤ (253 : Int)) else false) == true) = true ∧
                                  List.length y.fst < (4294967281 : Nat) ∧
                                    (∀ (y_1 : Bool × Unit),
                                        Kd.wf Kd.bool y_1.fst ∧ True →
                                          y_1.fst = decide ((0 : Int) ≤ idxS y.fst (bs { data := #[(46 : UInt8)] })) →
                                            (y_1.fst = true → True) ∧
                                              (y_1.fst = true →
                                                  (y_1.fst == true) = true ∧
                                                    List.length y.fst ≤ (1000000000 : Nat) ∧
                                                      (∀ (y_2 : Bool × Unit), Kd.wf Kd.bool y_2.fst ∧ True → y_2.fst = dnsD y.fst → y_2.fst = wildD x.fst) ∧ True) ∧
                                                (y_1.fst = !true → false = wildD x.fst)) ∧
                                      True) ∧
                              ((bif y.snd.fst then decide ((↑(List.length x.fst) : Int) ≤ (253 : Int)) else false) = !true → false = wildD x.fst)) ∧
            True
theorem e9 : t9 = Con.vc c_host_Wild GL (mkEnv ty [(26, conSem c_strings_CutPrefix), (27, conSem c_strings_Contains), (7, conSem c_host_DNS)] [] [] [0, 2, 3, 4]) {} Try.f9.ntmps Try.f9.results.toList (bodyOf Try.f9) := by kernel_rfl
theorem k9 : t9 := by
  unfold t9
  rintro ⟨l, _⟩ hx hp
  have hp : l.length ≤ 1000000000 := hp
  try dsimp +instances only [dft_int, dft_sl, dft_str]
  simp only [true_and, and_true, eq_self_iff_true, implies_true, reduceCtorEq, false_implies, true_implies, decide_eq_true_eq, decide_eq_false_iff_not, beq_self_eq_true, Bool.not_eq_true', ne_eq, Decidable.not_not, List.nil_append, List.length_singleton, List.length_cons, List.length_nil, Nat.zero_add, Nat.add_zero, Nat.mul_one, and_self, beq_iff_eq, Bool.not_true, Bool.not_false, Bool.not_eq_false', Bool.cond_false_right, Bool.and_eq_true, imp_self, Bool.not_eq_true, Bool.cond_true_left, Bool.or_eq_true]
  have hb : bs { data := #[46] } = [46] := by decide
  have hb2 : bs { data := #[42, 46] } = [42, 46] := by decide
  rw [hb, hb2]
  rintro ⟨a, b, _⟩ _ ⟨ea, eb⟩
  simp only at ea eb ⊢
  have hal : a.length ≤ l.length := by rw [ea]; split <;> simp
  refine ⟨fun h => ⟨h, by omega, ?_⟩, fun h => ?_⟩
  · have hh : hasP [42, 46] l = true := eb.symm.trans h.1
    rw [if_pos hh] at ea
    have ea : a = l.drop 2 := ea
    rintro ⟨c, _⟩ _ ec
    simp only at ec ⊢
    rw [contains_one, ea] at ec
    have hwd : wildD l = (c && dnsD a) := by
      rw [wildD, hh, decide_eq_true (show l.length ≤ 253 by omega), ← ec, ← ea]; rfl
    rw [hwd]
    refine ⟨fun hc => ⟨hc, by omega, ?_⟩, fun hc => by rw [hc]; rfl⟩
    rintro ⟨d, _⟩ _ ed
    simp only at ed ⊢
    rw [hc, ed]; rfl
  · rw [eb] at h
    rw [wildD, ← Bool.and_assoc, show decide (l.length ≤ 253) = decide ((l.length : Int) ≤ 253) from decide_eq_decide.2 (by omega), h]; rfl
theorem h9 : c_host_Wild.ok Try.prog GL 9 := con_ok (H := {}) (mkEnv_ok (gl := GL) (l := [(26, conSem c_strings_CutPrefix), (27, conSem c_strings_Contains), (7, conSem c_host_DNS)]) (q := []) (d := []) _ tyOk (by kernel_rfl) ⟨h26.call, h27.call, h7.call, trivial⟩ trivial trivial) (by kernel_rfl) (by kernel_rfl) (Eq.mp e9 k9)

def t10 : Prop :=
  ∀ (x : List Int × Unit),
    Kd.wf Kd.str x.fst ∧ True →
      List.length x.fst ≤ (1000000000 : Nat) →
        (decide ((2 : Int) < (↑(List.length x.fst) : Int)) = true → True) ∧
          (decide ((2 : Int) < (↑(List.length x.fst) : Int)) = true → (decide ((2 : Int) < (↑(List.length x.fst) : Int)) == true) = true ∧ True) ∧
            (decide ((2 : Int) < (↑(List.length x.fst) : Int)) = true → (decide ((2 : Int) < (↑(List.length x.fst) : Int)) == true) = true ∧ True) ∧
              (decide ((2 : Int) < (↑(List.length x.fst) : Int)) = true → (decide ((2 : Int) < (↑(List.length x.fst) : Int)) == true) = true) ∧
                ((bif decide ((2 : Int) < (↑(List.length x.fst) : Int)) then decide ((↑(List.length x.fst) : Int) ≤ (253 : Int)) else false) = true → True) ∧
                  ((bif decide ((2 : Int) < (↑(List.length x.fst) : Int)) then decide ((↑(List.length x.fst) : Int) ≤ (253 : Int)) else false) = true →
                      ((bif decide ((2 : Int) < (↑(List.length x.fst) : Int)) then decide ((↑(List.length x.fst) : Int) ≤ (253 : Int)) else false) == true) = true ∧
                        ((0 : Int) ≤ (2 : Int) ∧ (2 : Int) ≤ (↑(List.length x.fst) : Int)) ∧ True) ∧
                    ((bif decide ((2 : Int) < (↑(List.length x.fst) : Int)) then decide ((↑(List.length x.fst) : Int) ≤ (253 : Int)) else false) = true →
                        ((bif decide ((2 : Int) < (↑(List.length x.fst) : Int)) then decide ((↑(List.length x.fst) : Int) ≤ (253 : Int)) else false) == true) = true ∧ True) ∧
                      ((bif decide ((2 : Int) < (↑(List.length x.fst) : Int)) then decide ((↑(List.length x.fst) : Int) ≤ (253 : Int)) else false) = true →
                          ((bif decide ((2 : Int) < (↑(List.length x.fst) : Int)) then decide ((↑(List.length x.fst) : Int) ≤ (253 : Int)) else false) == true) = true) ∧
                        ((bif bif decide ((2 : Int) < (↑(List.length x.fst) : Int)) then decide ((↑(List.length x.fst) : Int) ≤ (253 : Int)) else false then
                                decide (List.take (2 : Nat) x.fst = bs { data := #[(42 : UInt8), (46 : UInt8)] })
                              else false) =
                              true →
                            True) ∧
                          ((bif bif decide ((2 : Int) < (↑(List.length x.fst) : Int)) then decide ((↑(List.length x.fst) : Int) ≤ (253 : Int)) else false then
                                  decide (List.take (2 : Nat) x.fst = bs { data := #[(42 : UInt8), (46 : UInt8)] })
                                else false) =
                                true →
                              ((bif bif decide ((2 : Int) < (↑(List.length x.fst) : Int)) then decide ((↑(List.length x.fst) : Int) ≤ (253 : Int)) else false then
                                      decide (List.take (2 : Nat) x.fst = bs { data := #[(42 : UInt8), (46 : UInt8)] })
                                    else false) ==
                                    true) =
                                  true ∧
                                List.length x.fst ≤ (1000000000 : Nat) ∧
                                  (∀ (y : List (List Int) × Unit),
                                      Kd.wf (Kd.sl Kd.str) y.fst ∧ True →
                                        y.fst = labelsD x.fst →
                                          (decide ((2 : Int) < (↑(List.length y.fst) : Int)) = true → True) ∧
                                            (decide ((2 : Int) < (↑(List.length y.fst) : Int)) = true →
                                                (decide ((2 : Int) < (↑(List.length y.fst) : Int)) == true) = true ∧ ((0 : Int) ≤ (2 : Int) ∧ (2 : Int) ≤ (↑(List.length x.fst) : Int)) ∧ True) ∧
                                              (decide ((2 : Int) < (↑(List.length y.fst) : Int)) = true →
                                                  (decide ((2 : Int) < (↑(List.length y.fst) : Int)) == true) = true ∧
                                                    List.length (List.drop (2 : Nat) x.fst) ≤ (1000000000 : Nat) ∧
                                                      (∀ (y : Bool × Unit), Kd.wf Kd.bool y.fst ∧ True → y.fst = dnsD (List.drop (2 : Nat) x.fst) → y.fst = wildD x.fst) ∧ True) ∧
                                                (decide ((2 : Int) < (↑(List.length y.fst) : Int)) = !true → false = wildD x.fst)) ∧
                                    True) ∧
                            ((bif bif decide ((2 : Int) < (↑(List.length x.fst) : Int)) then decide ((↑(List.length x.fst) : Int) ≤ (253 : Int)) else false then
                                  decide (List.take (2 : Nat) x.fst = bs { data := #[(42 : UInt8), (46 : UInt8)] })
                                else false) =
                                !true →
                              false = wildD x.fst)
theorem e10 : t10 = Con.vc c_r13_Wild GL (mkEnv ty [(17, conSem c_r13_Labels), (8, conSem c_r13_DNS)] [] [] [0, 2]) {} Try.f10.ntmps Try.f10.results.toList (bodyOf Try.f10) := by kernel_rfl
theorem k10 : t10 := by
  unfold t10
  rintro ⟨l, _⟩ hx hp
  have hp : l.length ≤ 1000000000 := hp
  try dsimp +instances only [dft_int, dft_sl, dft_str]
  simp only [true_and, and_true, eq_self_iff_true, implies_true, reduceCtorEq, false_implies, true_implies, decide_eq_true_eq, decide_eq_false_iff_not, beq_self_eq_true, Bool.not_eq_true', ne_eq, Decidable.not_not, List.nil_append, List.length_singleton, List.length_cons, List.length_nil, Nat.zero_add, Nat.add_zero, Nat.mul_one, and_self, beq_iff_eq, Bool.not_true, Bool.not_false, Bool.not_eq_false', Bool.cond_false_right, Bool.and_eq_true, imp_self, Bool.not_eq_true, Bool.cond_true_left, Bool.or_eq_true]
  have hb2 : bs { data := #[42, 46] } = [42, 46] := by decide
  rw [hb2]
  have hh : hasP [42, 46] l = decide (l.take 2 = [42, 46]) := rfl
  refine ⟨fun h => ⟨h, by decide, by omega⟩, fun h => ⟨h, hp, ?_⟩, fun h => ?_⟩
  · have hy : hasP [42, 46] l = true := by rw [hh, decide_eq_true h.2]
    obtain ⟨r, rfl⟩ := hasP_iff.1 hy
    rintro ⟨W, _⟩ _ eW
    simp only at eW ⊢
    have e1 : labelsD ([42, 46] ++ r) = [42] :: labelsD r := rfl
    have e2 : ([42, 46] ++ r : List Int).drop 2 = r := rfl
    have e3 := labels_two r
    have hwd : wildD ([42, 46] ++ r) = (decide (46 ∈ r) && dnsD r) := by
      have hle : ([42, 46] ++ r : List Int).length ≤ 253 := by omega
      rw [wildD, hy, decide_eq_true hle, e2]; rfl
    rw [e1] at eW
    have hl : W.length = (labelsD r).length + 1 := by rw [eW, List.length_cons]
    rw [e2, hwd]
    simp only [List.length_append, List.length_cons, List.length_nil] at hp
    refine ⟨fun h2 => ⟨h2, by decide, by simp; omega⟩, fun h2 => ⟨h2, by omega, ?_⟩, fun h2 => ?_⟩
    · rintro ⟨d, _⟩ _ ed
      simp only at ed ⊢
      rw [decide_eq_true (e3.1 (by omega)), ed]; rfl
    · rw [decide_eq_false (fun hc => by have := e3.2 hc; omega)]; rfl
  · refine Eq.symm ?_
    cases hw : wildD l with
    | false => rfl
    | true =>
      exfalso
      obtain ⟨r, rfl, h1, h2, h3⟩ := wild_form hw
      have h4 : r.length ≠ 0 := fun e => by rw [List.eq_nil_of_length_eq_zero e] at h2; cases h2
      simp only [Bool.and_eq_false_iff, decide_eq_false_iff_not] at h
      simp only [List.length_cons] at h h1
      rcases h with (h | h) | h
      · omega
      · omega
      · exact h rfl
theorem h10 : c_r13_Wild.ok Try.prog GL 10 := con_ok (H := {}) (mkEnv_ok (gl := GL) (l := [(17, conSem c_r13_Labels), (8, conSem c_r13_DNS)]) (q := []) (d := []) _ tyOk (by kernel_rfl) ⟨h17.call, h8.call, trivial⟩ trivial trivial) (by kernel_rfl) (by kernel_rfl) (Eq.mp e10 k10)

def t11 : Prop :=
  ∀ (x : List Int × Unit),
    Kd.wf Kd.str x.fst ∧ True →
      List.length x.fst ≤ (1000000000 : Nat) →
        (List.length x.fst < (4294967281 : Nat) ∧ List.length (bs { data := #[(64 : UInt8)] }) = (1 : Nat)) ∧
          (∀ (y : List Int × List Int × Bool × Unit),
              Kd.wf Kd.str y.fst ∧ Kd.wf Kd.str y.snd.fst ∧ Kd.wf Kd.bool y.snd.snd.fst ∧ True →
                y.fst = (cutD (List.getD (bs { data := #[(64 : UInt8)] }) (0 : Nat) (0 : Int)) x.fst).fst ∧
                    y.snd.fst = (cutD (List.getD (bs { data := #[(64 : UInt8)] }) (0 : Nat) (0 : Int)) x.fst).snd.fst ∧
                      y.snd.snd.fst = (cutD (List.getD (bs { data := #[(64 : UInt8)] }) (0 : Nat) (0 : Int)) x.fst).snd.snd →
                  (y.snd.snd.fst = true → True) ∧
                    (y.snd.snd.fst = true →
                        (y.snd.snd.fst == true) = true ∧
                          List.length y.fst ≤ (1000000000 : Nat) ∧
                            (∀ (y_1 : Bool × Unit),
                                Kd.wf Kd.bool y_1.fst ∧ True →
                                  y_1.fst = localD y.fst →
                                    (y_1.fst = true → True) ∧
                                      (y_1.fst = true →
                                          (y_1.fst == true) = true ∧
                                            List.length y.snd.fst ≤ (1000000000 : Nat) ∧
                                              (∀ (y_2 : Bool × Unit), Kd.wf Kd.bool y_2.fst ∧ True → y_2.fst = dnsD y.snd.fst → y_2.fst = emailD x.fst) ∧ True) ∧
                                        (y_1.fst = !true → false = emailD x.fst)) ∧
                              True) ∧
                      (y.snd.snd.fst = !true → false = emailD x.fst)) ∧
            True
theorem e11 : t11 = Con.vc c_host_Email GL (mkEnv ty [(28, conSem c_strings_Cut), (29, conSem c_host_local), (7, conSem c_host_DNS)] [] [] [0, 2, 3, 4, 5]) {} Try.f11.ntmps Try.f11.results.toList (bodyOf Try.f11) := by kernel_rfl
theorem k11 : t11 := by
  unfold t11
  rintro ⟨l, _⟩ hx hp
  have hp : l.length ≤ 1000000000 := hp
  try dsimp +instances only [dft_int, dft_sl, dft_str]
  simp only [true_and, and_true, eq_self_iff_true, implies_true, reduceCtorEq, false_implies, true_implies, decide_eq_true_eq, decide_eq_false_iff_not, beq_self_eq_true, Bool.not_eq_true', ne_eq, Decidable.not_not, List.nil_append, List.length_singleton, List.length_cons, List.length_nil, Nat.zero_add, Nat.add_zero, Nat.mul_one, and_self, beq_iff_eq, Bool.not_true, Bool.not_false, Bool.not_eq_false', Bool.cond_false_right, Bool.and_eq_true, imp_self, Bool.not_eq_true, Bool.cond_true_left, Bool.or_eq_true]
  have hb : bs { data := #[64] } = [64] := by decide
  have hd : ([64] : List Int).getD 0 0 = 64 := rfl
  rw [hb, hd]
  have hcl := cutD_len l 64
  refine ⟨⟨by omega, rfl⟩, ?_⟩
  rintro ⟨a, b, c, _⟩ _ ⟨ea, eb, ec⟩
  simp only at ea eb ec ⊢
  have he : emailD l = (c && (localD a && dnsD b)) := by rw [emailD, ea, eb, ec]
  rw [he]
  rw [← ea, ← eb] at hcl
  refine ⟨fun h => ⟨h, by omega, ?_⟩, fun h => by rw [h]; rfl⟩
  rintro ⟨u, _⟩ _ eu
  simp only at eu ⊢
  rw [h, ← eu]
  refine ⟨fun h => ⟨h, by omega, ?_⟩, fun h => by rw [h]; rfl⟩
  rintro ⟨v, _⟩ _ ev
  simp only at ev ⊢
  rw [h, ev]; rfl
theorem h11 : c_host_Email.ok Try.prog GL 11 := con_ok (H := {}) (mkEnv_ok (gl := GL) (l := [(28, conSem c_strings_Cut), (29, conSem c_host_local), (7, conSem c_host_DNS)]) (q := []) (d := []) _ tyOk (by kernel_rfl) ⟨h28.call, h29.call, h7.call, trivial⟩ trivial trivial) (by kernel_rfl) (by kernel_rfl) (Eq.mp e11 k11)

def t12 : Prop :=
  ∀ (x : List Int × Unit),
    Kd.wf Kd.str x.fst ∧ True →
      List.length x.fst ≤ (1000000000 : Nat) →
        ∃ (I : Int × Unit → Unit → Prop),
          ∃ (μ : Int × Unit → Unit → Nat),
            (Value.bool false = Value.bool false ∧ x.fst = x.fst ∧ I ((0 : Int), ()) ()) ∧
              ∀ (y : Int × Unit) (z : Unit),
                Kd.wf (Kd.int IntKind.i64) y.fst ∧ True →
                  True →
                    I y z →
                      (decide (y.fst < (↑(List.length x.fst) : Int)) = true → True) ∧
                        (decide (y.fst < (↑(List.length x.fst) : Int)) = true → True) ∧
                          (decide (y.fst < (↑(List.length x.fst) : Int)) = true →
                              (decide (y.fst < (↑(List.length x.fst) : Int)) == true) = true ∧
                                (decide (y.fst < (↑(List.length x.fst) : Int)) == true) = true ∧ ((0 : Int) ≤ y.fst ∧ y.fst < (↑(List.length x.fst) : Int)) ∧ True) ∧
                            (decide (y.fst < (↑(List.length x.fst) : Int)) = true → (decide (y.fst < (↑(List.length x.fst) : Int)) == true) = true ∧ True) ∧
                              (decide (y.fst < (↑(List.length x.fst) : Int)) = true → (decide (y.fst < (↑(List.length x.fst) : Int)) == true) = true) ∧
                                ((bif decide (y.fst < (↑(List.length x.fst) : Int)) then decide (List.getD x.fst (Int.toNat y.fst) (0 : Int) ≠ (64 : Int)) else false) = true →
                                    Value.bool false = Value.bool false ∧
                                      x.fst = x.fst ∧ I (IntKind.wrap IntKind.i64 (y.fst + (1 : Int)), ()) () ∧ μ (IntKind.wrap IntKind.i64 (y.fst + (1 : Int)), ()) () < μ y z) ∧
                                  ((bif decide (y.fst < (↑(List.length x.fst) : Int)) then decide (List.getD x.fst (Int.toNat y.fst) (0 : Int) ≠ (64 : Int)) else false) = false →
                                    ∃ (J : Bool × Unit → Unit → Prop),
                                      ((decide (y.fst = (↑(List.length x.fst) : Int)) = false → True) ∧
                                          (decide (y.fst = (↑(List.length x.fst) : Int)) = false → (decide (y.fst = (↑(List.length x.fst) : Int)) == false) = true ∧ True) ∧
                                            (decide (y.fst = (↑(List.length x.fst) : Int)) = false → (decide (y.fst = (↑(List.length x.fst) : Int)) == false) = true) ∧
                                              ((bif decide (y.fst = (↑(List.length x.fst) : Int)) then true else decide (y.fst < (1 : Int))) = false → True) ∧
                                                ((bif decide (y.fst = (↑(List.length x.fst) : Int)) then true else decide (y.fst < (1 : Int))) = false →
                                                    ((bif decide (y.fst = (↑(List.length x.fst) : Int)) then true else decide (y.fst < (1 : Int))) == false) = true ∧ True) ∧
                                                  ((bif decide (y.fst = (↑(List.length x.fst) : Int)) then true else decide (y.fst < (1 : Int))) = false →
                                                      ((bif decide (y.fst = (↑(List.length x.fst) : Int)) then true else decide (y.fst < (1 : Int))) == false) = true) ∧
                                                    ((bif bif decide (y.fst = (↑(List.length x.fst) : Int)) then true else decide (y.fst < (1 : Int)) then true else decide ((64 : Int) < y.fst)) =
                                                          false →
                                                        True) ∧
                                                      ((bif bif decide (y.fst = (↑(List.length x.fst) : Int)) then true else decide (y.fst < (1 : Int)) then true else decide ((64 : Int) < y.fst)) =
                                                            false →
                                                          ((bif bif decide (y.fst = (↑(List.length x.fst) : Int)) then true else decide (y.fst < (1 : Int)) then true else decide ((64 : Int) < y.fst)) ==
                                                                false) =
                                                              true ∧
                                                            ((0 : Int) ≤ (0 : Int) ∧ (0 : Int) < (↑(List.length x.fst) : Int)) ∧ True) ∧
                                                        ((bif bif decide (y.fst = (↑(List.length x.fst) : Int)) then true else decide (y.fst < (1 : Int)) then true else decide ((64 : Int) < y.fst)) =
                                                              false →
                                                            ((bif bif decide (y.fst = (↑(List.length x.fst) : Int)) then true else decide (y.fst < (1 : Int)) then true
                                                                  else decide ((64 : Int) < y.fst)) ==
                                                                  false) =
                                                                true ∧
                                                              True) ∧
                                                          ((bif bif decide (y.fst = (↑(List.length x.fst) : Int)) then true else decide (y.fst < (1 : Int)) then true else decide ((64 : Int) < y.fst)) =
                                                                false →
                                                              ((bif bif decide (y.fst = (↑(List.length x.fst) : Int)) then true else decide (y.fst < (1 : Int)) then true
                                                                  else decide ((64 : Int) < y.fst)) ==
                                                                  false) =
                                                                true) ∧
                                                            ((bif
                                                                      bif bif decide (y.fst = (↑(List.length x.fst) : Int)) then true else decide (y.fst < (1 : Int)) then true
                                                                      else decide ((64 : Int) < y.fst) then
                                                                    true
                                                                  else decide (List.getD x.fst (0 : Nat) (0 : Int) = (46 : Int))) =
                                                                  false →
                                                                True) ∧
                                                              ((bif
                                                                        bif bif decide (y.fst = (↑(List.length x.fst) : Int)) then true else decide (y.fst < (1 : Int)) then true
                                                                        else decide ((64 : Int) < y.fst) then
                                                                      true
                                                                    else decide (List.getD x.fst (0 : Nat) (0 : Int) = (46 : Int))) =
                                                                    false →
                                                                  True) ∧
                                                                ((bif
                                                                          bif bif decide (y.fst = (↑(List.length x.fst) : Int)) then true else decide (y.fst < (1 : Int)) then true
                                                                          else decide ((64 : Int) < y.fst) then
                                                                        true
                                                                      else decide (List.getD x.fst (0 : Nat) (0 : Int) = (46 : Int))) =
                                                                      false →
                                                                    ((bif
                                                                              bif bif decide (y.fst = (↑(List.length x.fst) : Int)) then true else decide (y.fst < (1 : Int)) then true
                                                                              else decide ((64 : Int) < y.fst) then
                                                                            true
                                                                          else decide (List.getD x.fst (0 : Nat) (0 : Int) = (46 : Int))) ==
                                                                          false) =
                                                                        true ∧
                                                                      True) ∧
                                                                  ((bif
                                                                            bif bif decide (y.fst = (↑(List.length x.fst) : Int)) then true else decide (y.fst < (1 : Int)) then true
                                                                            else decide ((64 : Int) < y.fst) then
                                                                          true
                                                                        else decide (List.getD x.fst (0 : Nat) (0 : Int) = (46 : Int))) =
                                                                        false →
                                                                      ((bif
                                                                                bif bif decide (y.fst = (↑(List.length x.fst) : Int)) then true else decide (y.fst < (1 : Int)) then true
                                                                                else decide ((64 : Int) < y.fst) then
                                                                              true
                                                                            else decide (List.getD x.fst (0 : Nat) (0 : Int) = (46 : Int))) ==
                                                                            false) =
                                                                          true ∧
                                                                        ((bif
                                                                                  bif bif decide (y.fst = (↑(List.length x.fst) : Int)) then true else decide (y.fst < (1 : Int)) then true
                                                                                  else decide ((64 : Int) < y.fst) then
                                                                                true
                                                                              else decide (List.getD x.fst (0 : Nat) (0 : Int) = (46 : Int))) ==
                                                                              false) =
                                                                            true ∧
                                                                          ((0 : Int) ≤ IntKind.wrap IntKind.i64 (y.fst - (1 : Int)) ∧
                                                                              IntKind.wrap IntKind.i64 (y.fst - (1 : Int)) < (↑(List.length x.fst) : Int)) ∧
                                                                            True) ∧
                                                                    ((bif
                                                                              bif bif decide (y.fst = (↑(List.length x.fst) : Int)) then true else decide (y.fst < (1 : Int)) then true
                                                                              else decide ((64 : Int) < y.fst) then
                                                                            true
                                                                          else decide (List.getD x.fst (0 : Nat) (0 : Int) = (46 : Int))) =
                                                                          false →
                                                                        ((bif
                                                                                  bif bif decide (y.fst = (↑(List.length x.fst) : Int)) then true else decide (y.fst < (1 : Int)) then true
                                                                                  else decide ((64 : Int) < y.fst) then
                                                                                true
                                                                              else decide (List.getD x.fst (0 : Nat) (0 : Int) = (46 : Int))) ==
                                                                              false) =
                                                                            true ∧
                                                                          True) ∧
                                                                      ((bif
                                                                                bif bif decide (y.fst = (↑(List.length x.fst) : Int)) then true else decide (y.fst < (1 : Int)) then true
                                                                                else decide ((64 : Int) < y.fst) then
                                                                              true
                                                                            else decide (List.getD x.fst (0 : Nat) (0 : Int) = (46 : Int))) =
                                                                            false →
                                                                          ((bif
                                                                                  bif bif decide (y.fst = (↑(List.length x.fst) : Int)) then true else decide (y.fst < (1 : Int)) then true
                                                                                  else decide ((64 : Int) < y.fst) then
                                                                                true
                                                                              else decide (List.getD x.fst (0 : Nat) (0 : Int) = (46 : Int))) ==
                                                                              false) =
                                                                            true) ∧
                                                                        ((bif
                                                                                  bif
                                                                                      bif bif decide (y.fst = (↑(List.length x.fst) : Int)) then true else decide (y.fst < (1 : Int)) then true
                                                                                      else decide ((64 : Int) < y.fst) then
                                                                                    true
                                                                                  else decide (List.getD x.fst (0 : Nat) (0 : Int) = (46 : Int)) then
                                                                                true
                                                                              else decide (List.getD x.fst (Int.toNat (IntKind.wrap IntKind.i64 (y.fst - (1 : Int)))) (0 : Int) = (46 : Int))) =
                                                                              true →
                                                                            false = emailD x.fst) ∧
                                                                          ((bif
                                                                                  bif
                                                                                      bif bif decide (y.fst = (↑(List.length x.fst) : Int)) then true else decide (y.fst < (1 : Int)) then true
                                                                                      else decide ((64 : Int) < y.fst) then
                                                                                    true
                                                                                  else decide (List.getD x.fst (0 : Nat) (0 : Int) = (46 : Int)) then
                                                                                true
                                                                              else decide (List.getD x.fst (Int.toNat (IntKind.wrap IntKind.i64 (y.fst - (1 : Int)))) (0 : Int) = (46 : Int))) =
                                                                              false →
                                                                            Value.bool false = Value.bool false ∧ y.fst = y.fst ∧ x.fst = x.fst ∧ J (false, ()) ())) ∧
                                        ∀ (u : Bool × Unit) (z : Unit),
                                          Kd.wf Kd.bool u.fst ∧ True →
                                            True →
                                              J u z →
                                                ∃ (I : Int × Bool × Unit → Unit → Prop),
                                                  ∃ (μ : Int × Bool × Unit → Unit → Nat),
                                                    (Value.bool false = Value.bool false ∧ y.fst = y.fst ∧ x.fst = x.fst ∧ I ((0 : Int), u.fst, ()) ()) ∧
                                                      ∀ (y_1 : Int × Bool × Unit) (z : Unit),
                                                        Kd.wf (Kd.int IntKind.i64) y_1.fst ∧ Kd.wf Kd.bool y_1.snd.fst ∧ True →
                                                          True →
                                                            I y_1 z →
                                                              (decide (y_1.fst < y.fst) = true →
                                                                  ((0 : Int) ≤ y_1.fst ∧ y_1.fst < (↑(List.length x.fst) : Int)) ∧
                                                                    ∃ (J : Bool × Unit → Unit → Prop),
                                                                      (True ∧
                                                                          (∀ (y_2 : Bool × Unit),
                                                                              Kd.wf Kd.bool y_2.fst ∧ True →
                                                                                y_2.fst = letterD (List.getD x.fst (Int.toNat y_1.fst) (0 : Int)) →
                                                                                  ((!y_2.fst) = true → True) ∧
                                                                                    ((!y_2.fst) = true →
                                                                                        ((!y_2.fst) == true) = true ∧
                                                                                          True ∧
                                                                                            (∀ (y_3 : Bool × Unit),
                                                                                                Kd.wf Kd.bool y_3.fst ∧ True →
                                                                                                  y_3.fst = digitD (List.getD x.fst (Int.toNat y_1.fst) (0 : Int)) →
                                                                                                    ((!y_3.fst) = true → True) ∧
                                                                                                      ((!y_3.fst) = true → ((!y_3.fst) == true) = true ∧ True) ∧
                                                                                                        ((!y_3.fst) = true → ((!y_3.fst) == true) = true) ∧
                                                                                                          ((bif !y_3.fst then decide (List.getD x.fst (Int.toNat y_1.fst) (0 : Int) ≠ (46 : Int))
                                                                                                                else false) =
                                                                                                                true →
                                                                                                              True) ∧
                                                                                                            ((bif !y_3.fst then decide (List.getD x.fst (Int.toNat y_1.fst) (0 : Int) ≠ (46 : Int))
                                                                                                                  else false) =
                                                                                                                  true →
                                                                                                                ((bif !y_3.fst then decide (List.getD x.fst (Int.toNat y_1.fst) (0 : Int) ≠ (46 : Int))
                                                                                                                      else false) ==
                                                                                                                      true) =
                                                                                                                    true ∧
                                                                                                                  True) ∧
                                                                                                              ((bif !y_3.fst then decide (List.getD x.fst (Int.toNat y_1.fst) (0 : Int) ≠ (46 : Int))
                                                                                                                    else false) =
                                                                                                                    true →
                                                                                                                  ((bif !y_3.fst then decide (List.getD x.fst (Int.toNat y_1.fst) (0 : Int) ≠ (46 : Int))
                                                                                                                      else false) ==
                                                                                                                      true) =
                                                                                                                    true) ∧
                                                                                                                ((bif
                                                                                                                          bif !y_3.fst then
                                                                                                                            decide (List.getD x.fst (Int.toNat y_1.fst) (0 : Int) ≠ (46 : Int))
                                                                                                                          else false then
                                                                                                                        decide (List.getD x.fst (Int.toNat y_1.fst) (0 : Int) ≠ (95 : Int))
                                                                                                                      else false) =
                                                                                                                      true →
                                                                                                                    True) ∧
                                                                                                                  ((bif
                                                                                                                            bif !y_3.fst then
                                                                                                                              decide (List.getD x.fst (Int.toNat y_1.fst) (0 : Int) ≠ (46 : Int))
                                                                                                                            else false then
                                                                                                                          decide (List.getD x.fst (Int.toNat y_1.fst) (0 : Int) ≠ (95 : Int))
                                                                                                                        else false) =
                                                                                                                        true →
                                                                                                                      ((bif
                                                                                                                                bif !y_3.fst then
                                                                                                                                  decide (List.getD x.fst (Int.toNat y_1.fst) (0 : Int) ≠ (46 : Int))
                                                                                                                                else false then
                                                                                                                              decide (List.getD x.fst (Int.toNat y_1.fst) (0 : Int) ≠ (95 : Int))
                                                                                                                            else false) ==
                                                                                                                            true) =
                                                                                                                          true ∧
                                                                                                                        True) ∧
                                                                                                                    ((bif
                                                                                                                              bif !y_3.fst then
                                                                                                                                decide (List.getD x.fst (Int.toNat y_1.fst) (0 : Int) ≠ (46 : Int))
                                                                                                                              else false then
                                                                                                                            decide (List.getD x.fst (Int.toNat y_1.fst) (0 : Int) ≠ (95 : Int))
                                                                                                                          else false) =
                                                                                                                          true →
                                                                                                                        ((bif
                                                                                                                                bif !y_3.fst then
                                                                                                                                  decide (List.getD x.fst (Int.toNat y_1.fst) (0 : Int) ≠ (46 : Int))
                                                                                                                                else false then
                                                                                                                              decide (List.getD x.fst (Int.toNat y_1.fst) (0 : Int) ≠ (95 : Int))
                                                                                                                            else false) ==
                                                                                                                            true) =
                                                                                                                          true) ∧
                                                                                                                      ((bif
                                                                                                                                bif
                                                                                                                                    bif !y_3.fst then
                                                                                                                                      decide (List.getD x.fst (Int.toNat y_1.fst) (0 : Int) ≠ (46 : Int))
                                                                                                                                    else false then
                                                                                                                                  decide (List.getD x.fst (Int.toNat y_1.fst) (0 : Int) ≠ (95 : Int))
                                                                                                                                else false then
                                                                                                                              decide (List.getD x.fst (Int.toNat y_1.fst) (0 : Int) ≠ (43 : Int))
                                                                                                                            else false) =
                                                                                                                            true →
                                                                                                                          True) ∧
                                                                                                                        ((bif
                                                                                                                                  bif
                                                                                                                                      bif !y_3.fst then
                                                                                                                                        decide
                                                                                                                                          (List.getD x.fst (Int.toNat y_1.fst) (0 : Int) ≠ (46 : Int))
                                                                                                                                      else false then
                                                                                                                                    decide (List.getD x.fst (Int.toNat y_1.fst) (0 : Int) ≠ (95 : Int))
                                                                                                                                  else false then
                                                                                                                                decide (List.getD x.fst (Int.toNat y_1.fst) (0 : Int) ≠ (43 : Int))
                                                                                                                              else false) =
                                                                                                                              true →
                                                                                                                            ((bif
                                                                                                                                      bif
                                                                                                                                          bif !y_3.fst then
                                                                                                                                            decide
                                                                                                                                              (List.getD x.fst (Int.toNat y_1.fst) (0 : Int) ≠ (46 : Int))
                                                                                                                                          else false then
                                                                                                                                        decide
                                                                                                                                          (List.getD x.fst (Int.toNat y_1.fst) (0 : Int) ≠ (95 : Int))
                                                                                                                                      else false then
                                                                                                                                    decide (List.getD x.fst (Int.toNat y_1.fst) (0 : Int) ≠ (43 : Int))
                                                                                                                                  else false) ==
                                                                                                                                  true) =
                                                                                                                                true ∧
                                                                                                                              True) ∧
                                                                                                                          ((bif
                                                                                                                                    bif
                                                                                                                                        bif !y_3.fst then
                                                                                                                                          decide
                                                                                                                                            (List.getD x.fst (Int.toNat y_1.fst) (0 : Int) ≠ (46 : Int))
                                                                                                                                        else false then
                                                                                                                                      decide (List.getD x.fst (Int.toNat y_1.fst) (0 : Int) ≠ (95 : Int))
                                                                                                                                    else false then
                                                                                                                                  decide (List.getD x.fst (Int.toNat y_1.fst) (0 : Int) ≠ (43 : Int))
                                                                                                                                else false) =
                                                                                                                                true →
                                                                                                                              ((bif
                                                                                                                                      bif
                                                                                                                                          bif !y_3.fst then
                                                                                                                                            decide
                                                                                                                                              (List.getD x.fst (Int.toNat y_1.fst) (0 : Int) ≠ (46 : Int))
                                                                                                                                          else false then
                                                                                                                                        decide
                                                                                                                                          (List.getD x.fst (Int.toNat y_1.fst) (0 : Int) ≠ (95 : Int))
                                                                                                                                      else false then
                                                                                                                                    decide (List.getD x.fst (Int.toNat y_1.fst) (0 : Int) ≠ (43 : Int))
                                                                                                                                  else false) ==
                                                                                                                                  true) =
                                                                                                                                true) ∧
                                                                                                                            ((bif
                                                                                                                                      bif
                                                                                                                                          bif
                                                                                                                                              bif !y_3.fst then
                                                                                                                                                decide
                                                                                                                                                  (List.getD x.fst (Int.toNat y_1.fst) (0 : Int) ≠
                                                                                                                                                    (46 : Int))
                                                                                                                                              else false then
                                                                                                                                            decide
                                                                                                                                              (List.getD x.fst (Int.toNat y_1.fst) (0 : Int) ≠ (95 : Int))
                                                                                                                                          else false then
                                                                                                                                        decide
                                                                                                                                          (List.getD x.fst (Int.toNat y_1.fst) (0 : Int) ≠ (43 : Int))
                                                                                                                                      else false then
                                                                                                                                    decide (List.getD x.fst (Int.toNat y_1.fst) (0 : Int) ≠ (45 : Int))
                                                                                                                                  else false) =
                                                                                                                                  true →
                                                                                                                                false = emailD x.fst) ∧
                                                                                                                              ((bif
                                                                                                                                      bif
                                                                                                                                          bif
                                                                                                                                              bif !y_3.fst then
                                                                                                                                                decide
                                                                                                                                                  (List.getD x.fst (Int.toNat y_1.fst) (0 : Int) ≠
                                                                                                                                                    (46 : Int))
                                                                                                                                              else false then
                                                                                                                                            decide
                                                                                                                                              (List.getD x.fst (Int.toNat y_1.fst) (0 : Int) ≠ (95 : Int))
                                                                                                                                          else false then
                                                                                                                                        decide
                                                                                                                                          (List.getD x.fst (Int.toNat y_1.fst) (0 : Int) ≠ (43 : Int))
                                                                                                                                      else false then
                                                                                                                                    decide (List.getD x.fst (Int.toNat y_1.fst) (0 : Int) ≠ (45 : Int))
                                                                                                                                  else false) =
                                                                                                                                  false →
                                                                                                                                List.getD x.fst (Int.toNat y_1.fst) (0 : Int) =
                                                                                                                                    List.getD x.fst (Int.toNat y_1.fst) (0 : Int) ∧
                                                                                                                                  Value.bool true = Value.bool true ∧
                                                                                                                                    y_1.fst = y_1.fst ∧
                                                                                                                                      Value.bool false = Value.bool false ∧
                                                                                                                                        y.fst = y.fst ∧ x.fst = x.fst ∧ J (y_1.snd.fst, ()) ())) ∧
                                                                                              True) ∧
                                                                                      ((!y_2.fst) = !true →
                                                                                        List.getD x.fst (Int.toNat y_1.fst) (0 : Int) = List.getD x.fst (Int.toNat y_1.fst) (0 : Int) ∧
                                                                                          Value.bool true = Value.bool true ∧
                                                                                            y_1.fst = y_1.fst ∧
                                                                                              Value.bool false = Value.bool false ∧ y.fst = y.fst ∧ x.fst = x.fst ∧ J (y_1.snd.fst, ()) ())) ∧
                                                                            True) ∧
                                                                        ∀ (u : Bool × Unit) (z_1 : Unit),
                                                                          Kd.wf Kd.bool u.fst ∧ True →
                                                                            True →
                                                                              J u z_1 →
                                                                                (decide (List.getD x.fst (Int.toNat y_1.fst) (0 : Int) = (46 : Int)) = true → True) ∧
                                                                                  (decide (List.getD x.fst (Int.toNat y_1.fst) (0 : Int) = (46 : Int)) = true → True) ∧
                                                                                    (decide (List.getD x.fst (Int.toNat y_1.fst) (0 : Int) = (46 : Int)) = true →
                                                                                        (decide (List.getD x.fst (Int.toNat y_1.fst) (0 : Int) = (46 : Int)) == true) = true ∧ True) ∧
                                                                                      (decide (List.getD x.fst (Int.toNat y_1.fst) (0 : Int) = (46 : Int)) = true →
                                                                                          (decide (List.getD x.fst (Int.toNat y_1.fst) (0 : Int) = (46 : Int)) == true) = true ∧
                                                                                            (decide (List.getD x.fst (Int.toNat y_1.fst) (0 : Int) = (46 : Int)) == true) = true ∧
                                                                                              ((0 : Int) ≤ IntKind.wrap IntKind.i64 (y_1.fst + (1 : Int)) ∧
                                                                                                  IntKind.wrap IntKind.i64 (y_1.fst + (1 : Int)) < (↑(List.length x.fst) : Int)) ∧
                                                                                                True) ∧
                                                                                        (decide (List.getD x.fst (Int.toNat y_1.fst) (0 : Int) = (46 : Int)) = true →
                                                                                            (decide (List.getD x.fst (Int.toNat y_1.fst) (0 : Int) = (46 : Int)) == true) = true ∧ True) ∧
                                                                                          (decide (List.getD x.fst (Int.toNat y_1.fst) (0 : Int) = (46 : Int)) = true →
                                                                                              (decide (List.getD x.fst (Int.toNat y_1.fst) (0 : Int) = (46 : Int)) == true) = true) ∧
                                                                                            ((bif decide (List.getD x.fst (Int.toNat y_1.fst) (0 : Int) = (46 : Int)) then
                                                                                                    decide
                                                                                                      (List.getD x.fst (Int.toNat (IntKind.wrap IntKind.i64 (y_1.fst + (1 : Int)))) (0 : Int) =
                                                                                                        (46 : Int))
                                                                                                  else false) =
                                                                                                  true →
                                                                                                false = emailD x.fst) ∧
                                                                                              ((bif decide (List.getD x.fst (Int.toNat y_1.fst) (0 : Int) = (46 : Int)) then
                                                                                                    decide
                                                                                                      (List.getD x.fst (Int.toNat (IntKind.wrap IntKind.i64 (y_1.fst + (1 : Int)))) (0 : Int) =
                                                                                                        (46 : Int))
                                                                                                  else false) =
                                                                                                  false →
                                                                                                Value.bool false = Value.bool false ∧
                                                                                                  y.fst = y.fst ∧
                                                                                                    x.fst = x.fst ∧
                                                                                                      I (IntKind.wrap IntKind.i64 (y_1.fst + (1 : Int)), u.fst, ()) () ∧
                                                                                                        μ (IntKind.wrap IntKind.i64 (y_1.fst + (1 : Int)), u.fst, ()) () < μ y_1 z)) ∧
                                                                (decide (y_1.fst < y.fst) = false →
                                                                  ((0 : Int) ≤ IntKind.wrap IntKind.i64 (y.fst + (1 : Int)) ∧
                                                                      IntKind.wrap IntKind.i64 (y.fst + (1 : Int)) ≤ (↑(List.length x.fst) : Int)) ∧
                                                                    List.length (List.drop (Int.toNat (IntKind.wrap IntKind.i64 (y.fst + (1 : Int)))) x.fst) ≤ (1000000000 : Nat) ∧
                                                                      (∀ (y_2 : Bool × Unit),
                                                                          Kd.wf Kd.bool y_2.fst ∧ True →
                                                                            y_2.fst = dnsD (List.drop (Int.toNat (IntKind.wrap IntKind.i64 (y.fst + (1 : Int)))) x.fst) → y_2.fst = emailD x.fst) ∧
                                                                        True))
theorem e12 : t12 = Con.vc c_r13_Email GL (mkEnv ty [(30, conSem c_r13_letter), (25, conSem c_r13_digit), (8, conSem c_r13_DNS)] [] [] [0, 2, 3, 4, 5, 15, 41, 44, 73, 82]) {joins := [6,12]} Try.f12.ntmps Try.f12.results.toList (bodyOf Try.f12) := by kernel_rfl
theorem k12 : t12 := by
  unfold t12
  rintro ⟨l, _⟩ hx hp
  have hp : l.length ≤ 1000000000 := hp
  try dsimp +instances only [dft_int, dft_sl, dft_str]
  simp only [true_and, and_true, eq_self_iff_true, implies_true, reduceCtorEq, false_implies, true_implies, decide_eq_true_eq, decide_eq_false_iff_not, beq_self_eq_true, Bool.not_eq_true', ne_eq, Decidable.not_not, List.nil_append, List.length_singleton, List.length_cons, List.length_nil, Nat.zero_add, Nat.add_zero, Nat.mul_one, and_self, beq_iff_eq, Bool.not_true, Bool.not_false, Bool.not_eq_false', Bool.cond_false_right, Bool.and_eq_true, imp_self, Bool.not_eq_true, Bool.cond_true_left, Bool.or_eq_true]
  refine ⟨fun y _ => 0 ≤ y.1 ∧ y.1 ≤ l.length ∧ ∀ j, j < y.1.toNat → l.getD j 0 ≠ 64, fun y _ => ((l.length : Int) - y.1).toNat, ⟨Int.le_refl 0, by simp only; omega, fun j hj => by simp at hj⟩, ?_⟩
  rintro ⟨n, _⟩ _ _ ⟨n0, n1, n2⟩
  simp only at n0 n1 n2 ⊢
  have hw1 : n < l.length → IntKind.wrap .i64 (n + 1) = n + 1 := fun _ => wrapK _ (by omega) (by omega)
  have hw2 : IntKind.wrap .i64 (n - 1) = n - 1 := wrapK _ (by omega) (by omega)
  rw [hw2]
  refine ⟨fun h => ⟨h, h, n0, h⟩, fun h => ?_, fun h => ?_⟩
  · rw [hw1 h.1]
    refine ⟨⟨by omega, by omega, fun j hj => ?_⟩, by omega⟩
    by_cases hji : j < n.toNat
    · exact n2 j hji
    · rw [show j = n.toNat by omega]; exact h.2
  have none : n = l.length → emailD l = false := fun e => email_none (fun hc => by
    obtain ⟨j, hj, hx⟩ := List.getElem_of_mem hc
    refine n2 j (by omega) ?_
    rw [List.getD_eq_getElem?_getD, List.getElem?_eq_getElem hj]
    exact hx)
  have some : n ≠ l.length → emailD l = (localD (l.take n.toNat) && dnsD (l.drop (n.toNat + 1))) := fun e => by
    have h64 : l.getD n.toNat 0 = 64 := by
      simp only [Bool.and_eq_false_iff, decide_eq_false_iff_not] at h
      rcases h with h | h
      · omega
      · exact Classical.not_not.1 h
    exact email_at (by omega) h64 n2
  have htl : n ≠ l.length → (l.take n.toNat).length = n.toNat := fun e => by rw [List.length_take]; omega
  have htg : ∀ j, j < n.toNat → (l.take n.toNat).getD j 0 = l.getD j 0 := fun j hj => getD_take l _ j hj
  have hnil : n ≠ l.length → (l.take n.toNat = [] ↔ n = 0) := fun e => ⟨fun h => by have := congrArg List.length h; rw [htl e] at this; simp at this; omega, fun h => by rw [h]; rfl⟩
  simp only [Bool.or_eq_false_iff, decide_eq_false_iff_not]
  refine ⟨fun _ _ => n ≠ l.length ∧ 1 ≤ n ∧ n ≤ 64 ∧ l.getD 0 0 ≠ 46 ∧ l.getD (n.toNat - 1) 0 ≠ 46, ⟨fun h => ⟨h, by decide, by omega⟩, fun h => ⟨h, h, by omega, by omega⟩, fun h => ?_, fun h => ⟨h.1.1.1.1, by omega, by omega, h.1.2, by rw [show n.toNat - 1 = (n - 1).toNat by omega]; exact h.2⟩⟩, ?_⟩
  · refine Eq.symm ?_
    by_cases e : n = l.length
    · exact none e
    · have hl0 : localD (l.take n.toNat) = false := by
        have key : ¬ (l.take n.toNat ≠ [] ∧ (l.take n.toNat).length ≤ 64 ∧ (l.take n.toNat).getD 0 0 ≠ 46 ∧ (l.take n.toNat).getD ((l.take n.toNat).length - 1) 0 ≠ 46) := by
          rintro ⟨k1, k2, k3, k4⟩
          rw [Ne, hnil e] at k1
          rw [htl e] at k2 k4
          rw [htg 0 (by omega)] at k3
          rw [htg _ (by omega), show n.toNat - 1 = (n - 1).toNat by omega] at k4
          omega
        rw [localD, decide_eq_false key]; rfl
      rw [some e, hl0]; rfl
  rintro ⟨b, _⟩ _ _ ⟨j1, j2, j3, j4, j5⟩
  have hE := some j1
  have hloc : localD (l.take n.toNat) = (!dotsD (l.take n.toNat) && (l.take n.toNat).all mcharD) := by
    rw [localD, decide_eq_true ⟨by rw [Ne, hnil j1]; omega, by rw [htl j1]; omega, by rw [htg 0 (by omega)]; exact j4, by rw [htl j1, htg _ (by omega)]; exact j5⟩]; rfl
  have hbad : ∀ i : Int, 0 ≤ i → i < n → mcharD (l.getD i.toNat 0) = false → false = emailD l := fun i h0 h1 hm => by
    rw [hE, hloc, all_not _ _ i.toNat (by rw [htl j1]; omega) (by rw [htg _ (by omega)]; exact hm)]
    simp
  have h64 : l.getD n.toNat 0 = 64 := by
    simp only [Bool.and_eq_false_iff, decide_eq_false_iff_not] at h
    rcases h with h | h
    · omega
    · exact Classical.not_not.1 h
  simp only
  refine ⟨fun y _ => 0 ≤ y.1 ∧ y.1 ≤ n ∧ ∀ j, j < y.1.toNat → mcharD (l.getD j 0) = true ∧ ¬ (l.getD j 0 = 46 ∧ l.getD (j + 1) 0 = 46), fun y _ => (n - y.1).toNat, ⟨Int.le_refl 0, by simp only; omega, fun j hj => by simp at hj⟩, ?_⟩
  rintro ⟨i, c, _⟩ _ _ ⟨i0, i1, i2⟩
  simp only at i0 i1 i2 ⊢
  have hw3 : IntKind.wrap .i64 (i + 1) = i + 1 := wrapK _ (by omega) (by omega)
  rw [hw3, hw1 (by omega)]
  refine ⟨fun hlt => ⟨⟨i0, by omega⟩, fun _ _ => mcharD (l.getD i.toNat 0) = true, ?_, ?_⟩, fun hge => ⟨⟨by omega, by omega⟩, by simp; omega, ?_⟩⟩
  · rintro ⟨d, _⟩ _ ed
    simp only at ed ⊢
    refine ⟨fun h => ⟨h, ?_⟩, fun h => by rw [mcharD, ← ed, h]; rfl⟩
    rintro ⟨e, _⟩ _ ee
    simp only at ee ⊢
    refine ⟨fun h2 => hbad i i0 hlt ?_, fun h2 => ?_⟩
    · rw [mcharD, ← ed, h, ← ee, h2.1.1.1.1, decide_eq_false (by omega)]; rfl
    · rw [mcharD, ← ed, h, ← ee]
      cases e with
      | true => rfl
      | false =>
        simp only [Bool.not_false, Bool.true_and, Bool.and_eq_false_iff, decide_eq_false_iff_not] at h2
        rw [decide_eq_true (by omega)]; rfl
  · rintro ⟨d, _⟩ _ _ hJ
    have hJ : mcharD (l.getD i.toNat 0) = true := hJ
    try simp only
    have e1 : (i + 1).toNat = i.toNat + 1 := by omega
    rw [e1]
    refine ⟨fun h => ⟨h, h, by omega, by omega⟩, fun h => ?_, fun h => ⟨⟨by omega, by omega, fun j hj => ?_⟩, by omega⟩⟩
    · have hin : i.toNat + 1 < n.toNat := by
        by_cases e : i.toNat + 1 = n.toNat
        · rw [e, h64] at h; omega
        · omega
      have hd : dotsD (l.take n.toNat) = true := (dots_iff _).2 ⟨i.toNat, by rw [htl j1]; omega, by rw [htg _ (by omega)]; exact h.1, by rw [htg _ hin]; exact h.2⟩
      rw [hE, hloc, hd]; rfl
    · by_cases hji : j < i.toNat
      · exact i2 j hji
      · rw [show j = i.toNat by omega]
        simp only [Bool.and_eq_false_iff, decide_eq_false_iff_not] at h
        exact ⟨hJ, by omega⟩
  · rintro ⟨d, _⟩ _ ed
    simp only at ed ⊢
    have hin : i = n := by omega
    subst hin
    have ha : (l.take i.toNat).all mcharD = true := all_get _ _ (fun j hj => by
      rw [htl j1] at hj
      rw [htg _ hj]
      exact (i2 j hj).1)
    have hd : dotsD (l.take i.toNat) = false := by
      cases hd : dotsD (l.take i.toNat) with
      | false => rfl
      | true =>
        obtain ⟨j, q1, q2, q3⟩ := (dots_iff _).1 hd
        rw [htl j1] at q1
        rw [htg _ (by omega)] at q2
        rw [htg _ q1] at q3
        exact absurd ⟨q2, q3⟩ (i2 j (by omega)).2
    rw [hE, hloc, ha, hd, ed, show (i + 1).toNat = i.toNat + 1 by omega]; rfl
theorem h12 : c_r13_Email.ok Try.prog GL 12 := con_ok (H := {joins := [6,12]}) (mkEnv_ok (gl := GL) (l := [(30, conSem c_r13_letter), (25, conSem c_r13_digit), (8, conSem c_r13_DNS)]) (q := []) (d := []) _ tyOk (by kernel_rfl) ⟨h30.call, h25.call, h8.call, trivial⟩ trivial trivial) (by kernel_rfl) (by kernel_rfl) (Eq.mp e12 k12)

def t13 : Prop :=
  ∀ (x : List Int × Unit),
    Kd.wf Kd.str x.fst ∧ True →
      True →
        (decide ((↑(List.length x.fst) : Int) = (4 : Int)) = false → True) ∧
          (decide ((↑(List.length x.fst) : Int) = (4 : Int)) = false → (decide ((↑(List.length x.fst) : Int) = (4 : Int)) == false) = true ∧ True) ∧
            (decide ((↑(List.length x.fst) : Int) = (4 : Int)) = false → (decide ((↑(List.length x.fst) : Int) = (4 : Int)) == false) = true ∧ True) ∧
              (decide ((↑(List.length x.fst) : Int) = (4 : Int)) = false → (decide ((↑(List.length x.fst) : Int) = (4 : Int)) == false) = true) ∧
                (bif decide ((↑(List.length x.fst) : Int) = (4 : Int)) then true else decide ((↑(List.length x.fst) : Int) = (16 : Int))) = ipD x.fst
theorem e13 : t13 = Con.vc c_host_IP GL (mkEnv ty [] [] [] [0, 2]) {} Try.f13.ntmps Try.f13.results.toList (bodyOf Try.f13) := by kernel_rfl
theorem k13 : t13 := by
  unfold t13
  rintro ⟨l, _⟩ hx hp
  try dsimp +instances only [dft_int, dft_sl, dft_str]
  simp only [true_and, and_true, eq_self_iff_true, implies_true, reduceCtorEq, false_implies, true_implies, decide_eq_true_eq, decide_eq_false_iff_not, beq_self_eq_true, Bool.not_eq_true', ne_eq, Decidable.not_not, List.nil_append, List.length_singleton, List.length_cons, List.length_nil, Nat.zero_add, Nat.add_zero, Nat.mul_one, and_self, beq_iff_eq, Bool.not_true, Bool.not_false, Bool.not_eq_false', Bool.cond_false_right, Bool.and_eq_true, imp_self, Bool.not_eq_true, Bool.cond_true_left, Bool.or_eq_true]
  rw [Bool.eq_iff_iff, ipD]
  simp only [Bool.or_eq_true, decide_eq_true_eq]
  omega
theorem h13 : c_host_IP.ok Try.prog GL 13 := con_ok (H := {}) (mkEnv_ok (gl := GL) (l := []) (q := []) (d := []) _ tyOk (by kernel_rfl) trivial trivial trivial) (by kernel_rfl) (by kernel_rfl) (Eq.mp e13 k13)

def t14 : Prop :=
  ∀ (x : List Int × Unit),
    Kd.wf Kd.str x.fst ∧ True →
      True →
        (decide ((↑(List.length x.fst) : Int) = (4 : Int)) = false → True) ∧
          (decide ((↑(List.length x.fst) : Int) = (4 : Int)) = false → (decide ((↑(List.length x.fst) : Int) = (4 : Int)) == false) = true ∧ True) ∧
            (decide ((↑(List.length x.fst) : Int) = (4 : Int)) = false → (decide ((↑(List.length x.fst) : Int) = (4 : Int)) == false) = true ∧ True) ∧
              (decide ((↑(List.length x.fst) : Int) = (4 : Int)) = false → (decide ((↑(List.length x.fst) : Int) = (4 : Int)) == false) = true) ∧
                (bif decide ((↑(List.length x.fst) : Int) = (4 : Int)) then true else decide ((↑(List.length x.fst) : Int) = (16 : Int))) = ipD x.fst
theorem e14 : t14 = Con.vc c_r13_IP GL (mkEnv ty [] [] [] [0, 2]) {} Try.f14.ntmps Try.f14.results.toList (bodyOf Try.f14) := by kernel_rfl
theorem k14 : t14 := by
  unfold t14
  rintro ⟨l, _⟩ hx hp
  try dsimp +instances only [dft_int, dft_sl, dft_str]
  simp only [true_and, and_true, eq_self_iff_true, implies_true, reduceCtorEq, false_implies, true_implies, decide_eq_true_eq, decide_eq_false_iff_not, beq_self_eq_true, Bool.not_eq_true', ne_eq, Decidable.not_not, List.nil_append, List.length_singleton, List.length_cons, List.length_nil, Nat.zero_add, Nat.add_zero, Nat.mul_one, and_self, beq_iff_eq, Bool.not_true, Bool.not_false, Bool.not_eq_false', Bool.cond_false_right, Bool.and_eq_true, imp_self, Bool.not_eq_true, Bool.cond_true_left, Bool.or_eq_true]
  rw [Bool.eq_iff_iff, ipD]
  simp only [Bool.or_eq_true, decide_eq_true_eq]
  omega
theorem h14 : c_r13_IP.ok Try.prog GL 14 := con_ok (H := {}) (mkEnv_ok (gl := GL) (l := []) (q := []) (d := []) _ tyOk (by kernel_rfl) trivial trivial trivial) (by kernel_rfl) (by kernel_rfl) (Eq.mp e14 k14)

end Go.Proofs.Ytlpbhgcndebkcaa
