/- Walks. -/
import Derived.Test.YtkdffofjnjamlaaDoorZLaw03eA
set_option linter.unusedVariables false
set_option linter.unusedSimpArgs false
namespace Go.Proofs.YtkdffofjnjamlaaDoor
open Go Go.Vc Go.Pl Go.Proofs
set_option linter.unusedVariables false
set_option linter.unusedSimpArgs false
theorem take_backI (l : List Int) (c : List Int) : List.take ((l.length : Int).toNat - 0) (List.drop 0 (l ++ c)) = l := by simp
theorem got_backI (l : List Int) (c : Int) : (l ++ [c]).getD (l.length : Int).toNat 0 = c := by simp [List.getD_eq_getElem?_getD]
def t37 : Prop :=
  ∀ (x : List Int × List Int × Unit),
    Kd.wf (Kd.sl (Kd.int IntKind.i64)) x.fst ∧ Kd.wf (Kd.sl (Kd.int IntKind.i64)) x.snd.fst ∧ True →
      True →
        ∃ (I : Int × Int × Unit → Unit → Prop),
          ∃ (μ : Int × Int × Unit → Unit → Nat),
            (x.fst = x.fst ∧ x.snd.fst = x.snd.fst ∧ I ((0 : Int), (0 : Int), ()) ()) ∧
              ∀ (y : Int × Int × Unit) (z : Unit),
                Kd.wf (Kd.int IntKind.i64) y.fst ∧ Kd.wf (Kd.int IntKind.i64) y.snd.fst ∧ True →
                  True →
                    I y z →
                      (decide (y.fst < (↑(List.length x.fst) : Int)) = true → True) ∧
                        (decide (y.fst < (↑(List.length x.fst) : Int)) = true → True) ∧
                          (decide (y.fst < (↑(List.length x.fst) : Int)) = true → (decide (y.fst < (↑(List.length x.fst) : Int)) == true) = true ∧ True) ∧
                            (decide (y.fst < (↑(List.length x.fst) : Int)) = true →
                                (decide (y.fst < (↑(List.length x.fst) : Int)) == true) = true ∧ (decide (y.fst < (↑(List.length x.fst) : Int)) == true) = true ∧ True) ∧
                              (decide (y.fst < (↑(List.length x.fst) : Int)) = true → (decide (y.fst < (↑(List.length x.fst) : Int)) == true) = true) ∧
                                ((bif decide (y.fst < (↑(List.length x.fst) : Int)) then decide (y.fst < (↑(List.length x.snd.fst) : Int)) else false) = true →
                                    ((0 : Int) ≤ y.fst ∧ y.fst < (↑(List.length x.fst) : Int)) ∧
                                      ((0 : Int) ≤ y.fst ∧ y.fst < (↑(List.length x.snd.fst) : Int)) ∧
                                        (decide (List.getD x.fst (Int.toNat y.fst) (Kd.dft (Kd.int IntKind.i64)) < List.getD x.snd.fst (Int.toNat y.fst) (Kd.dft (Kd.int IntKind.i64))) = true →
                                            x.fst = x.snd.fst → (-1 : Int) = (0 : Int)) ∧
                                          (decide (List.getD x.fst (Int.toNat y.fst) (Kd.dft (Kd.int IntKind.i64)) < List.getD x.snd.fst (Int.toNat y.fst) (Kd.dft (Kd.int IntKind.i64))) = false →
                                            ((0 : Int) ≤ y.fst ∧ y.fst < (↑(List.length x.fst) : Int)) ∧
                                              ((0 : Int) ≤ y.fst ∧ y.fst < (↑(List.length x.snd.fst) : Int)) ∧
                                                (decide (List.getD x.snd.fst (Int.toNat y.fst) (Kd.dft (Kd.int IntKind.i64)) < List.getD x.fst (Int.toNat y.fst) (Kd.dft (Kd.int IntKind.i64))) = true →
                                                    x.fst = x.snd.fst → (1 : Int) = (0 : Int)) ∧
                                                  (decide (List.getD x.snd.fst (Int.toNat y.fst) (Kd.dft (Kd.int IntKind.i64)) < List.getD x.fst (Int.toNat y.fst) (Kd.dft (Kd.int IntKind.i64))) =
                                                      false →
                                                    x.fst = x.fst ∧
                                                      x.snd.fst = x.snd.fst ∧
                                                        I (IntKind.wrap IntKind.i64 (y.fst + (1 : Int)), y.snd.fst, ()) () ∧
                                                          μ (IntKind.wrap IntKind.i64 (y.fst + (1 : Int)), y.snd.fst, ()) () < μ y z))) ∧
                                  ((bif decide (y.fst < (↑(List.length x.fst) : Int)) then decide (y.fst < (↑(List.length x.snd.fst) : Int)) else false) = false →
                                    (decide ((↑(List.length x.fst) : Int) < (↑(List.length x.snd.fst) : Int)) = true → x.fst = x.snd.fst → (-1 : Int) = (0 : Int)) ∧
                                      (decide ((↑(List.length x.fst) : Int) < (↑(List.length x.snd.fst) : Int)) = false →
                                        (decide ((↑(List.length x.snd.fst) : Int) < (↑(List.length x.fst) : Int)) = true → x.fst = x.snd.fst → (1 : Int) = (0 : Int)) ∧
                                          (decide ((↑(List.length x.snd.fst) : Int) < (↑(List.length x.fst) : Int)) = false → x.fst = x.snd.fst → (0 : Int) = (0 : Int))))
theorem e37 : t37 = Con.vc c_r03_Compare GL (mkEnv ty [] [] [] [0, 1, 4, 5, 15, 26, 35, 40, 45]) {} Tryd.f37.ntmps Tryd.f37.results.toList (bodyOf Tryd.f37) := by kernel_rfl
theorem k37 : t37 := by
  unfold t37
  rintro ⟨a, b, _⟩ hx hp
  have hl : a.length ≤ 9223372036854775807 := hx.1.1
  try dsimp +instances only [dft_int, dft_sl, dft_str]
  simp only [true_and, and_true, eq_self_iff_true, implies_true, reduceCtorEq, false_implies, true_implies, decide_eq_true_eq, decide_eq_false_iff_not, beq_self_eq_true, Bool.not_eq_true', ne_eq, Decidable.not_not, List.nil_append, List.length_singleton, List.length_cons, List.length_nil, Nat.zero_add, Nat.add_zero, Nat.mul_one, and_self, beq_iff_eq, Bool.not_true, Bool.not_false, Bool.not_eq_false', Bool.cond_false_right, Bool.and_eq_true, imp_self, Bool.not_eq_true, Bool.cond_true_left, Bool.or_eq_true]
  refine ⟨fun y _ => 0 ≤ y.1 ∧ y.1 ≤ a.length, fun y _ => ((a.length : Int) - y.1).toNat, ⟨Int.le_refl 0, by simp only; omega⟩, ?_⟩
  rintro ⟨i, r, _⟩ _ _ ⟨i0, i1⟩
  simp only at i0 i1 ⊢
  refine ⟨fun h => ?_, fun _ => ⟨fun h e => by subst e; omega, fun _ h e => by subst e; omega⟩⟩
  rw [wrapM (i + 1) (by omega) (by omega)]
  exact ⟨⟨i0, h.1⟩, ⟨i0, h.2⟩, fun hlt e => by subst e; omega, fun _ => ⟨⟨i0, h.1⟩, ⟨i0, h.2⟩, fun hlt e => by subst e; omega, fun _ => ⟨⟨by omega, by omega⟩, by omega⟩⟩⟩
theorem h37 : c_r03_Compare.ok Tryd.prog GL 37 := con_ok (H := {}) (mkEnv_ok (gl := GL) (l := []) (q := []) (d := []) _ tyOk (by kernel_rfl) trivial trivial trivial) (by kernel_rfl) (by kernel_rfl) (Eq.mp e37 k37)

def t26 : Prop :=
  ∀ (x : List Int × List Int × Unit),
    Kd.wf (Kd.sl (Kd.int IntKind.i64)) x.fst ∧ Kd.wf (Kd.sl (Kd.int IntKind.i64)) x.snd.fst ∧ True →
      True → True ∧ (∀ (y : Int × Unit), Kd.wf (Kd.int IntKind.i64) y.fst ∧ True → (x.fst = x.snd.fst → y.fst = (0 : Int)) → x.fst = x.snd.fst → decide (y.fst = (0 : Int)) = true) ∧ True
theorem e26 : t26 = Con.vc c_law03_same GL (mkEnv ty [(37, conSem c_r03_Compare)] [] [] [0, 1, 4]) {} Tryd.f26.ntmps Tryd.f26.results.toList (bodyOf Tryd.f26) := by kernel_rfl
theorem k26 : t26 := by
  unfold t26
  rintro ⟨a, b, _⟩ hx hp
  try dsimp +instances only [dft_int, dft_sl, dft_str]
  simp only [true_and, and_true, eq_self_iff_true, implies_true, reduceCtorEq, false_implies, true_implies, decide_eq_true_eq, decide_eq_false_iff_not, beq_self_eq_true, Bool.not_eq_true', ne_eq, Decidable.not_not, List.nil_append, List.length_singleton, List.length_cons, List.length_nil, Nat.zero_add, Nat.add_zero, Nat.mul_one, and_self, beq_iff_eq, Bool.not_true, Bool.not_false, Bool.not_eq_false', Bool.cond_false_right, Bool.and_eq_true, imp_self, Bool.not_eq_true, Bool.cond_true_left, Bool.or_eq_true]
theorem h26 : c_law03_same.ok Tryd.prog GL 26 := con_ok (H := {}) (mkEnv_ok (gl := GL) (l := [(37, conSem c_r03_Compare)]) (q := []) (d := []) _ tyOk (by kernel_rfl) ⟨h37.call, trivial⟩ trivial trivial) (by kernel_rfl) (by kernel_rfl) (Eq.mp e26 k26)

def t15 : Prop :=
  ∀ (x : Unit), True → True → true = true
theorem e15 : t15 = Con.vc c_law03_names GL (mkEnv ty [] [] [] [0]) {} Tryd.f15.ntmps Tryd.f15.results.toList (bodyOf Tryd.f15) := by kernel_rfl
theorem k15 : t15 := by
  unfold t15
  rintro _ hx hp
  rfl
theorem h15 : c_law03_names.ok Tryd.prog GL 15 := con_ok (H := {}) (mkEnv_ok (gl := GL) (l := []) (q := []) (d := []) _ tyOk (by kernel_rfl) trivial trivial trivial) (by kernel_rfl) (by kernel_rfl) (Eq.mp e15 k15)

noncomputable def i7 : CallSem := vcFn (mkEnv ty [] [] [] [0, 2]) {} Tryd.f7.ntmps Tryd.f7.results.toList (bodyOf Tryd.f7)
theorem i7_ok : CallOk Tryd.prog GL 7 i7 := inl_ok {} (mkEnv_ok (gl := GL) (l := []) (q := []) (d := []) _ tyOk (by kernel_rfl) trivial trivial trivial) (by kernel_rfl) (by kernel_rfl)

noncomputable def i14 : CallSem := vcFn (mkEnv ty [(26, conSem c_law03_same)] [] [] [0, 1, 4]) {} Tryd.f14.ntmps Tryd.f14.results.toList (bodyOf Tryd.f14)
theorem i14_ok : CallOk Tryd.prog GL 14 i14 := inl_ok {} (mkEnv_ok (gl := GL) (l := [(26, conSem c_law03_same)]) (q := []) (d := []) _ tyOk (by kernel_rfl) ⟨h26.call, trivial⟩ trivial trivial) (by kernel_rfl) (by kernel_rfl)

def t3 : Prop :=
  ∀ (x : List Int × Unit),
    Kd.wf (Kd.sl (Kd.int IntKind.i64)) x.fst ∧ True →
      ABulk [AK.dat (Kd.sl (Kd.int IntKind.i64))] x ≤ (1048576 : Nat) →
        (0 : Nat) < (1 : Nat) ∧
          ((0 : Nat) + List.length x.fst) * (8 : Nat) ≤ (140737488355328 : Nat) ∧
            (0 : Nat) + List.length x.fst ≤ (9223372036854775807 : Nat) ∧
              (0 : Nat) < (1 : Nat) ∧
                (List.length ([] ++ x.fst) + (1 : Nat)) * (8 : Nat) ≤ (140737488355328 : Nat) ∧
                  List.length ([] ++ x.fst) + (1 : Nat) ≤ (9223372036854775807 : Nat) ∧
                    ((0 : Int) ≤ (↑(List.length x.fst) : Int) ∧ (↑(List.length x.fst) : Int) ≤ (↑(List.length ([] ++ x.fst ++ [(-71 : Int)])) : Int)) ∧
                      True ∧
                        (∀ (y : List Int × Int × Unit),
                            Kd.wf (Kd.sl (Kd.int IntKind.u8)) y.fst ∧ Kd.wf (Kd.int IntKind.i64) y.snd.fst ∧ True →
                              (y.fst, y.snd.fst) = EncO (List.take (Int.toNat (↑(List.length x.fst) : Int) - (0 : Nat)) (List.drop (0 : Nat) ([] ++ x.fst ++ [(-71 : Int)]))) →
                                True ∧
                                  (∀ (y_1 : List Int × Int × Unit),
                                      Kd.wf (Kd.sl (Kd.int IntKind.u8)) y_1.fst ∧ Kd.wf (Kd.int IntKind.i64) y_1.snd.fst ∧ True →
                                        (y_1.fst, y_1.snd.fst) = EncO (List.take (Int.toNat (↑(List.length x.fst) : Int) - (0 : Nat)) (List.drop (0 : Nat) ([] ++ x.fst ++ [(-71 : Int)]))) →
                                          True ∧
                                            (∀ (y_2 : List Int × Int × Unit),
                                                Kd.wf (Kd.sl (Kd.int IntKind.u8)) y_2.fst ∧ Kd.wf (Kd.int IntKind.i64) y_2.snd.fst ∧ True →
                                                  (y_2.fst, y_2.snd.fst) = EncO x.fst →
                                                    True ∧
                                                      (∀ (y_3 : List Int × Int × Unit),
                                                          Kd.wf Kd.str y_3.fst ∧ Kd.wf (Kd.int IntKind.i64) y_3.snd.fst ∧ True →
                                                            (y_3.fst, y_3.snd.fst) =
                                                                TxtO (List.take (Int.toNat (↑(List.length x.fst) : Int) - (0 : Nat)) (List.drop (0 : Nat) ([] ++ x.fst ++ [(-71 : Int)]))) →
                                                              True ∧
                                                                (∀ (y_4 : List Int × Int × Unit),
                                                                    Kd.wf Kd.str y_4.fst ∧ Kd.wf (Kd.int IntKind.i64) y_4.snd.fst ∧ True →
                                                                      (y_4.fst, y_4.snd.fst) = TxtO x.fst →
                                                                        (decide (y.snd.fst ≠ y_2.snd.fst) = false → True) ∧
                                                                          (decide (y.snd.fst ≠ y_2.snd.fst) = false → (decide (y.snd.fst ≠ y_2.snd.fst) == false) = true ∧ True) ∧
                                                                            (decide (y.snd.fst ≠ y_2.snd.fst) = false → True) ∧
                                                                              (decide (y.snd.fst ≠ y_2.snd.fst) = false → (decide (y.snd.fst ≠ y_2.snd.fst) == false) = true ∧ True) ∧
                                                                                (decide (y.snd.fst ≠ y_2.snd.fst) = false →
                                                                                    (decide (y.snd.fst ≠ y_2.snd.fst) == false) = true ∧ (decide (y.snd.fst ≠ y_2.snd.fst) == false) = true ∧ True) ∧
                                                                                  (decide (y.snd.fst ≠ y_2.snd.fst) = false → (decide (y.snd.fst ≠ y_2.snd.fst) == false) = true) ∧
                                                                                    ((bif decide (y.snd.fst ≠ y_2.snd.fst) then true else decide (y.fst ≠ y_2.fst)) = false → True) ∧
                                                                                      ((bif decide (y.snd.fst ≠ y_2.snd.fst) then true else decide (y.fst ≠ y_2.fst)) = false → True) ∧
                                                                                        ((bif decide (y.snd.fst ≠ y_2.snd.fst) then true else decide (y.fst ≠ y_2.fst)) = false →
                                                                                            ((bif decide (y.snd.fst ≠ y_2.snd.fst) then true else decide (y.fst ≠ y_2.fst)) == false) = true ∧
                                                                                              ((bif decide (y.snd.fst ≠ y_2.snd.fst) then true else decide (y.fst ≠ y_2.fst)) == false) = true ∧ True) ∧
                                                                                          ((bif decide (y.snd.fst ≠ y_2.snd.fst) then true else decide (y.fst ≠ y_2.fst)) = false →
                                                                                              ((bif decide (y.snd.fst ≠ y_2.snd.fst) then true else decide (y.fst ≠ y_2.fst)) == false) = true) ∧
                                                                                            ((bif bif decide (y.snd.fst ≠ y_2.snd.fst) then true else decide (y.fst ≠ y_2.fst) then true
                                                                                                  else decide (y_3.snd.fst ≠ y_4.snd.fst)) =
                                                                                                  false →
                                                                                                True) ∧
                                                                                              ((bif bif decide (y.snd.fst ≠ y_2.snd.fst) then true else decide (y.fst ≠ y_2.fst) then true
                                                                                                    else decide (y_3.snd.fst ≠ y_4.snd.fst)) =
                                                                                                    false →
                                                                                                  True) ∧
                                                                                                ((bif bif decide (y.snd.fst ≠ y_2.snd.fst) then true else decide (y.fst ≠ y_2.fst) then true
                                                                                                      else decide (y_3.snd.fst ≠ y_4.snd.fst)) =
                                                                                                      false →
                                                                                                    ((bif bif decide (y.snd.fst ≠ y_2.snd.fst) then true else decide (y.fst ≠ y_2.fst) then true
                                                                                                          else decide (y_3.snd.fst ≠ y_4.snd.fst)) ==
                                                                                                          false) =
                                                                                                        true ∧
                                                                                                      ((bif bif decide (y.snd.fst ≠ y_2.snd.fst) then true else decide (y.fst ≠ y_2.fst) then true
                                                                                                            else decide (y_3.snd.fst ≠ y_4.snd.fst)) ==
                                                                                                            false) =
                                                                                                          true ∧
                                                                                                        True) ∧
                                                                                                  ((bif bif decide (y.snd.fst ≠ y_2.snd.fst) then true else decide (y.fst ≠ y_2.fst) then true
                                                                                                        else decide (y_3.snd.fst ≠ y_4.snd.fst)) =
                                                                                                        false →
                                                                                                      ((bif bif decide (y.snd.fst ≠ y_2.snd.fst) then true else decide (y.fst ≠ y_2.fst) then true
                                                                                                          else decide (y_3.snd.fst ≠ y_4.snd.fst)) ==
                                                                                                          false) =
                                                                                                        true) ∧
                                                                                                    ((bif
                                                                                                              bif bif decide (y.snd.fst ≠ y_2.snd.fst) then true else decide (y.fst ≠ y_2.fst) then true
                                                                                                              else decide (y_3.snd.fst ≠ y_4.snd.fst) then
                                                                                                            true
                                                                                                          else decide (y_3.fst ≠ y_4.fst)) =
                                                                                                          false →
                                                                                                        True) ∧
                                                                                                      ((bif
                                                                                                                bif bif decide (y.snd.fst ≠ y_2.snd.fst) then true else decide (y.fst ≠ y_2.fst) then true
                                                                                                                else decide (y_3.snd.fst ≠ y_4.snd.fst) then
                                                                                                              true
                                                                                                            else decide (y_3.fst ≠ y_4.fst)) =
                                                                                                            false →
                                                                                                          ((bif
                                                                                                                    bif bif decide (y.snd.fst ≠ y_2.snd.fst) then true else decide (y.fst ≠ y_2.fst) then
                                                                                                                      true
                                                                                                                    else decide (y_3.snd.fst ≠ y_4.snd.fst) then
                                                                                                                  true
                                                                                                                else decide (y_3.fst ≠ y_4.fst)) ==
                                                                                                                false) =
                                                                                                              true ∧
                                                                                                            True ∧
                                                                                                              (∀ (y_5 : Bool × Unit),
                                                                                                                  Kd.wf Kd.bool y_5.fst ∧ True →
                                                                                                                    y_5.fst =
                                                                                                                        mayO
                                                                                                                          (List.take (Int.toNat (↑(List.length x.fst) : Int) - (0 : Nat))
                                                                                                                            (List.drop (0 : Nat) ([] ++ x.fst ++ [(-71 : Int)]))) →
                                                                                                                      True ∧
                                                                                                                        (∀ (y_6 : Bool × Unit),
                                                                                                                            Kd.wf Kd.bool y_6.fst ∧ True →
                                                                                                                              y_6.fst = mayO x.fst →
                                                                                                                                (decide (y_5.fst ≠ y_6.fst) = true → false = true) ∧
                                                                                                                                  (decide (y_5.fst ≠ y_6.fst) = false →
                                                                                                                                    ∃ (I :
                                                                                                                                      Int × Unit →
                                                                                                                                        List Int × List Int × List Int × List Int × Unit → Prop),
                                                                                                                                      ∃ (μ :
                                                                                                                                        Int × Unit →
                                                                                                                                          List Int × List Int × List Int × List Int × Unit → Nat),
                                                                                                                                        (Value.bool false = Value.bool false ∧
                                                                                                                                            y_4.snd.fst = y_4.snd.fst ∧
                                                                                                                                              y_4.fst = y_4.fst ∧
                                                                                                                                                y_3.snd.fst = y_3.snd.fst ∧
                                                                                                                                                  y_3.fst = y_3.fst ∧
                                                                                                                                                    y_2.snd.fst = y_2.snd.fst ∧
                                                                                                                                                      y.snd.fst = y.snd.fst ∧
                                                                                                                                                        (0 : Nat) = (0 : Nat) ∧
                                                                                                                                                          Int.toNat (↑(List.length x.fst) : Int) -
                                                                                                                                                                (0 : Nat) =
                                                                                                                                                              Int.toNat (↑(List.length x.fst) : Int) -
                                                                                                                                                                (0 : Nat) ∧
                                                                                                                                                            Value.bool false = Value.bool false ∧
                                                                                                                                                              x.fst = x.fst ∧
                                                                                                                                                                I ((0 : Int), ())
                                                                                                                                                                  ([] ++ x.fst ++ [(-71 : Int)], y.fst,
                                                                                                                                                                    y_1.fst, y_2.fst, ())) ∧
                                                                                                                                          ∀ (y_7 : Int × Unit)
                                                                                                                                            (z : List Int × List Int × List Int × List Int × Unit),
                                                                                                                                            Kd.wf (Kd.int IntKind.i64) y_7.fst ∧ True →
                                                                                                                                              Kd.wf (Kd.sl (Kd.int IntKind.i64)) z.fst ∧
                                                                                                                                                  Kd.wf (Kd.sl (Kd.int IntKind.u8)) z.snd.fst ∧
                                                                                                                                                    Kd.wf (Kd.sl (Kd.int IntKind.u8)) z.snd.snd.fst ∧
                                                                                                                                                      Kd.wf (Kd.sl (Kd.int IntKind.u8))
                                                                                                                                                          z.snd.snd.snd.fst ∧
                                                                                                                                                        True →
                                                                                                                                                I y_7 z →
                                                                                                                                                  (decide (y_7.fst < (↑(List.length z.snd.fst) : Int)) =
                                                                                                                                                        true →
                                                                                                                                                      ((0 : Int) ≤ y_7.fst ∧
                                                                                                                                                          y_7.fst < (↑(List.length z.snd.fst) : Int)) ∧
                                                                                                                                                        ((0 : Int) ≤ y_7.fst ∧
                                                                                                                                                            y_7.fst < (↑(List.length z.snd.fst) : Int)) ∧
                                                                                                                                                          Value.bool false = Value.bool false ∧
                                                                                                                                                            y_4.snd.fst = y_4.snd.fst ∧
                                                                                                                                                              y_4.fst = y_4.fst ∧
                                                                                                                                                                y_3.snd.fst = y_3.snd.fst ∧
                                                                                                                                                                  y_3.fst = y_3.fst ∧
                                                                                                                                                                    y_2.snd.fst = y_2.snd.fst ∧
                                                                                                                                                                      y.snd.fst = y.snd.fst ∧
                                                                                                                                                                        (0 : Nat) = (0 : Nat) ∧
                                                                                                                                                                          Int.toNat
                                                                                                                                                                                  (↑(List.length x.fst) :
                                                                                                                                                                                    Int) -
                                                                                                                                                                                (0 : Nat) =
                                                                                                                                                                              Int.toNat
                                                                                                                                                                                  (↑(List.length x.fst) :
                                                                                                                                                                                    Int) -
                                                                                                                                                                                (0 : Nat) ∧
                                                                                                                                                                            Value.bool false =
                                                                                                                                                                                Value.bool false ∧
                                                                                                                                                                              x.fst = x.fst ∧
                                                                                                                                                                                I
                                                                                                                                                                                    (IntKind.wrap
                                                                                                                                                                                        IntKind.i64
                                                                                                                                                                                        (y_7.fst +
                                                                                                                                                                                          (1 : Int)),
                                                                                                                                                                                      ())
                                                                                                                                                                                    (z.fst,
                                                                                                                                                                                      List.set z.snd.fst
                                                                                                                                                                                        (Int.toNat
                                                                                                                                                                                          y_7.fst)
                                                                                                                                                                                        (IntKind.wrap
                                                                                                                                                                                          IntKind.u8
                                                                                                                                                                                          (List.getD
                                                                                                                                                                                              z.snd.fst
                                                                                                                                                                                              (Int.toNat
                                                                                                                                                                                                y_7.fst)
                                                                                                                                                                                              (Kd.dft
                                                                                                                                                                                                (Kd.int
                                                                                                                                                                                                  IntKind.u8)) +
                                                                                                                                                                                            (1 : Int))),
                                                                                                                                                                                      z.snd.snd.fst,
                                                                                                                                                                                      z.snd.snd.snd.fst,
                                                                                                                                                                                      ()) ∧
                                                                                                                                                                                  μ
                                                                                                                                                                                      (IntKind.wrap
                                                                                                                                                                                          IntKind.i64
                                                                                                                                                                                          (y_7.fst +
                                                                                                                                                                                            (1 : Int)),
                                                                                                                                                                                        ())
                                                                                                                                                                                      (z.fst,
                                                                                                                                                                                        List.set z.snd.fst
                                                                                                                                                                                          (Int.toNat
                                                                                                                                                                                            y_7.fst)
                                                                                                                                                                                          (IntKind.wrap
                                                                                                                                                                                            IntKind.u8
                                                                                                                                                                                            (List.getD
                                                                                                                                                                                                z.snd.fst
                                                                                                                                                                                                (Int.toNat
                                                                                                                                                                                                  y_7.fst)
                                                                                                                                                                                                (Kd.dft
                                                                                                                                                                                                  (Kd.int
                                                                                                                                                                                                    IntKind.u8)) +
                                                                                                                                                                                              (1 : Int))),
                                                                                                                                                                                        z.snd.snd.fst,
                                                                                                                                                                                        z.snd.snd.snd.fst,
                                                                                                                                                                                        ()) <
                                                                                                                                                                                    μ y_7 z) ∧
                                                                                                                                                    (decide (y_7.fst < (↑(List.length z.snd.fst) : Int)) =
                                                                                                                                                        false →
                                                                                                                                                      (decide (z.snd.snd.fst = z.snd.snd.snd.fst) = true →
                                                                                                                                                          True) ∧
                                                                                                                                                        (decide (z.snd.snd.fst = z.snd.snd.snd.fst) =
                                                                                                                                                              true →
                                                                                                                                                            True) ∧
                                                                                                                                                          (decide (z.snd.snd.fst = z.snd.snd.snd.fst) =
                                                                                                                                                                true →
                                                                                                                                                              (decide
                                                                                                                                                                      (z.snd.snd.fst =
                                                                                                                                                                        z.snd.snd.snd.fst) ==
                                                                                                                                                                    true) =
                                                                                                                                                                  true ∧
                                                                                                                                                                (decide
                                                                                                                                                                        (z.snd.snd.fst =
                                                                                                                                                                          z.snd.snd.snd.fst) ==
                                                                                                                                                                      true) =
                                                                                                                                                                    true ∧
                                                                                                                                                                  True ∧
                                                                                                                                                                    (∀ (y : Bool × Unit),
                                                                                                                                                                        Kd.wf Kd.bool y.fst ∧ True →
                                                                                                                                                                          (List.take
                                                                                                                                                                                  (Int.toNat
                                                                                                                                                                                      (↑(List.length
                                                                                                                                                                                            x.fst) :
                                                                                                                                                                                        Int) -
                                                                                                                                                                                    (0 : Nat))
                                                                                                                                                                                  (List.drop (0 : Nat)
                                                                                                                                                                                    z.fst) =
                                                                                                                                                                                x.fst →
                                                                                                                                                                              y.fst = true) →
                                                                                                                                                                            (y.fst = true → True) ∧
                                                                                                                                                                              (y.fst = true → True) ∧
                                                                                                                                                                                (y.fst = true →
                                                                                                                                                                                    (y.fst == true) =
                                                                                                                                                                                        true ∧
                                                                                                                                                                                      True) ∧
                                                                                                                                                                                  (y.fst = true →
                                                                                                                                                                                      (y.fst == true) =
                                                                                                                                                                                          true ∧
                                                                                                                                                                                        True) ∧
                                                                                                                                                                                    (y.fst = true →
                                                                                                                                                                                        (y.fst == true) =
                                                                                                                                                                                            true ∧
                                                                                                                                                                                          (y.fst ==
                                                                                                                                                                                                true) =
                                                                                                                                                                                              true ∧
                                                                                                                                                                                            ((0 : Int) ≤
                                                                                                                                                                                                  IntKind.wrap
                                                                                                                                                                                                    IntKind.i64
                                                                                                                                                                                                    ((↑(List.length
                                                                                                                                                                                                            x.fst) :
                                                                                                                                                                                                        Int) +
                                                                                                                                                                                                      (1 :
                                                                                                                                                                                                        Int)) ∧
                                                                                                                                                                                                IntKind.wrap
                                                                                                                                                                                                    IntKind.i64
                                                                                                                                                                                                    ((↑(List.length
                                                                                                                                                                                                            x.fst) :
                                                                                                                                                                                                        Int) +
                                                                                                                                                                                                      (1 :
                                                                                                                                                                                                        Int)) ≤
                                                                                                                                                                                                  (↑(List.length
                                                                                                                                                                                                          z.fst -
                                                                                                                                                                                                        (0 :
                                                                                                                                                                                                          Nat)) :
                                                                                                                                                                                                    Int)) ∧
                                                                                                                                                                                              True) ∧
                                                                                                                                                                                      (y.fst = true →
                                                                                                                                                                                          True) ∧
                                                                                                                                                                                        (y.fst = true →
                                                                                                                                                                                            (y.fst ==
                                                                                                                                                                                                  true) =
                                                                                                                                                                                                true ∧
                                                                                                                                                                                              True) ∧
                                                                                                                                                                                          (y.fst = true →
                                                                                                                                                                                              (y.fst ==
                                                                                                                                                                                                    true) =
                                                                                                                                                                                                  true ∧
                                                                                                                                                                                                (y.fst ==
                                                                                                                                                                                                      true) =
                                                                                                                                                                                                    true ∧
                                                                                                                                                                                                  ((0 :
                                                                                                                                                                                                          Int) ≤
                                                                                                                                                                                                        (↑(List.length
                                                                                                                                                                                                              x.fst) :
                                                                                                                                                                                                          Int) ∧
                                                                                                                                                                                                      (↑(List.length
                                                                                                                                                                                                              x.fst) :
                                                                                                                                                                                                          Int) <
                                                                                                                                                                                                        (↑(Int.toNat
                                                                                                                                                                                                                (IntKind.wrap
                                                                                                                                                                                                                  IntKind.i64
                                                                                                                                                                                                                  ((↑(List.length
                                                                                                                                                                                                                          x.fst) :
                                                                                                                                                                                                                      Int) +
                                                                                                                                                                                                                    (1 :
                                                                                                                                                                                                                      Int))) -
                                                                                                                                                                                                              (0 :
                                                                                                                                                                                                                Nat)) :
                                                                                                                                                                                                          Int)) ∧
                                                                                                                                                                                                    True) ∧
                                                                                                                                                                                            (y.fst =
                                                                                                                                                                                                  true →
                                                                                                                                                                                                (y.fst ==
                                                                                                                                                                                                      true) =
                                                                                                                                                                                                    true ∧
                                                                                                                                                                                                  True) ∧
                                                                                                                                                                                              (y.fst =
                                                                                                                                                                                                    true →
                                                                                                                                                                                                  (y.fst ==
                                                                                                                                                                                                        true) =
                                                                                                                                                                                                      true ∧
                                                                                                                                                                                                    True) ∧
                                                                                                                                                                                                (y.fst =
                                                                                                                                                                                                      true →
                                                                                                                                                                                                    (y.fst ==
                                                                                                                                                                                                        true) =
                                                                                                                                                                                                      true) ∧
                                                                                                                                                                                                  ((bif
                                                                                                                                                                                                            y.fst then
                                                                                                                                                                                                          decide
                                                                                                                                                                                                            (List.getD
                                                                                                                                                                                                                z.fst
                                                                                                                                                                                                                ((0 :
                                                                                                                                                                                                                    Nat) +
                                                                                                                                                                                                                  Int.toNat
                                                                                                                                                                                                                    (↑(List.length
                                                                                                                                                                                                                          x.fst) :
                                                                                                                                                                                                                      Int))
                                                                                                                                                                                                                (Kd.dft
                                                                                                                                                                                                                  (Kd.int
                                                                                                                                                                                                                    IntKind.i64)) =
                                                                                                                                                                                                              (-71 :
                                                                                                                                                                                                                Int))
                                                                                                                                                                                                        else
                                                                                                                                                                                                          false) =
                                                                                                                                                                                                        true →
                                                                                                                                                                                                      True ∧
                                                                                                                                                                                                        (∀
                                                                                                                                                                                                            (y :
                                                                                                                                                                                                              Bool ×
                                                                                                                                                                                                                Unit),
                                                                                                                                                                                                            Kd.wf
                                                                                                                                                                                                                  Kd.bool
                                                                                                                                                                                                                  y.fst ∧
                                                                                                                                                                                                                True →
                                                                                                                                                                                                              y.fst =
                                                                                                                                                                                                                  true →
                                                                                                                                                                                                                y.fst =
                                                                                                                                                                                                                  true) ∧
                                                                                                                                                                                                          True) ∧
                                                                                                                                                                                                    ((bif
                                                                                                                                                                                                            y.fst then
                                                                                                                                                                                                          decide
                                                                                                                                                                                                            (List.getD
                                                                                                                                                                                                                z.fst
                                                                                                                                                                                                                ((0 :
                                                                                                                                                                                                                    Nat) +
                                                                                                                                                                                                                  Int.toNat
                                                                                                                                                                                                                    (↑(List.length
                                                                                                                                                                                                                          x.fst) :
                                                                                                                                                                                                                      Int))
                                                                                                                                                                                                                (Kd.dft
                                                                                                                                                                                                                  (Kd.int
                                                                                                                                                                                                                    IntKind.i64)) =
                                                                                                                                                                                                              (-71 :
                                                                                                                                                                                                                Int))
                                                                                                                                                                                                        else
                                                                                                                                                                                                          false) =
                                                                                                                                                                                                        !true →
                                                                                                                                                                                                      false =
                                                                                                                                                                                                        true)) ∧
                                                                                                                                                                      True) ∧
                                                                                                                                                            (decide (z.snd.snd.fst = z.snd.snd.snd.fst) =
                                                                                                                                                                !true →
                                                                                                                                                              false = true)))) ∧
                                                                                                                          True) ∧
                                                                                                                True) ∧
                                                                                                        ((bif
                                                                                                                bif bif decide (y.snd.fst ≠ y_2.snd.fst) then true else decide (y.fst ≠ y_2.fst) then true
                                                                                                                else decide (y_3.snd.fst ≠ y_4.snd.fst) then
                                                                                                              true
                                                                                                            else decide (y_3.fst ≠ y_4.fst)) =
                                                                                                            !false →
                                                                                                          false = true)) ∧
                                                                  True) ∧
                                                        True) ∧
                                              True) ∧
                                    True) ∧
                          True
theorem e3 : t3 = Con.vc c_law03_OidEncodes GL (mkEnv ty [(7, i7), (8, conSem c_oid_Encode), (9, conSem c_r03_Encode), (10, conSem c_oid_Text), (11, conSem c_r03_Text), (12, conSem c_oid_May), (13, conSem c_r03_May), (14, i14), (26, conSem c_law03_same), (15, conSem c_law03_names)] [] [] [0, 2, 3, 4, 5, 6, 8, 9, 10, 11, 12, 13, 14, 68, 72]) {} Tryd.f3.ntmps Tryd.f3.results.toList (bodyOf Tryd.f3) := by kernel_rfl
theorem k3 : t3 := by
  unfold t3
  rintro ⟨l, _⟩ hx hp
  have hb : Kd.bulk (.sl (.int .i64)) l + 0 ≤ 1048576 := hp
  rw [bulk_ints] at hb
  try dsimp +instances only [dft_int, dft_sl, dft_str]
  simp only [true_and, and_true, eq_self_iff_true, implies_true, reduceCtorEq, false_implies, true_implies, decide_eq_true_eq, decide_eq_false_iff_not, beq_self_eq_true, Bool.not_eq_true', ne_eq, Decidable.not_not, List.nil_append, List.length_singleton, List.length_cons, List.length_nil, Nat.zero_add, Nat.add_zero, Nat.mul_one, and_self, beq_iff_eq, Bool.not_true, Bool.not_false, Bool.not_eq_false', Bool.cond_false_right, Bool.and_eq_true, imp_self, Bool.not_eq_true, Bool.cond_true_left, Bool.or_eq_true]
  simp only [all_bool, take_backI]
  simp only [List.length_append, List.length_singleton]
  refine ⟨by decide, by omega, by omega, by decide, by omega, by omega, ⟨by omega, by omega⟩, ?_⟩
  rintro ⟨b, e, _⟩ _ h1 ⟨c, f, _⟩ _ h2 ⟨w, g, _⟩ _ h3 ⟨s, h, _⟩ _ h4 ⟨t, k, _⟩ _ h5
  simp only at h1 h2 h3 h4 h5 ⊢
  obtain ⟨rfl, rfl⟩ := Prod.mk.inj (h1.trans h3.symm)
  obtain ⟨rfl, rfl⟩ := Prod.mk.inj (h2.trans h3.symm)
  obtain ⟨rfl, rfl⟩ := Prod.mk.inj (h4.trans h5.symm)
  refine ⟨fun hh => ⟨hh, fun hne => hne trivial, fun _ => ?_⟩, fun hh => by rcases hh with ((hh | hh) | hh) | hh <;> exact hh rfl⟩
  refine ⟨fun y z => 0 ≤ y.1 ∧ z.1 = l ++ [-71] ∧ z.2.2.1 = z.2.2.2.1, fun y z => ((z.2.1.length : Int) - y.1).toNat, ⟨Int.le_refl 0, rfl, rfl⟩, ?_⟩
  rintro ⟨i, _⟩ ⟨x, u, v1, v2, _⟩ _ hw ⟨i0, ex, ev⟩
  have hu : u.length ≤ 9223372036854775807 := hw.2.1.1
  simp only at i0 ex ev ⊢
  subst ex
  subst ev
  refine ⟨fun hlt => ?_, fun _ => ⟨fun _ => ⟨rfl, rfl, ?_⟩, fun hne => hne rfl⟩⟩
  · rw [wrapM (i + 1) (by omega) (by omega)]
    exact ⟨⟨i0, hlt⟩, ⟨i0, hlt⟩, ⟨by omega, rfl, rfl⟩, by rw [List.length_set]; omega⟩
  · rintro ⟨q, _⟩ _ hq
    simp only [take_backI] at hq ⊢
    have hq : q = true := hq trivial
    subst hq
    rw [wrapK ((l.length : Int) + 1) (by omega) (by omega), got_backI]
    simp only [List.length_append, List.length_singleton]
    exact ⟨fun _ => ⟨trivial, trivial, by omega, by omega⟩, fun _ => ⟨trivial, trivial, by omega, by omega⟩, fun hc => by cases hc⟩
theorem h3 : c_law03_OidEncodes.ok Tryd.prog GL 3 := con_ok (H := {}) (mkEnv_ok (gl := GL) (l := [(7, i7), (8, conSem c_oid_Encode), (9, conSem c_r03_Encode), (10, conSem c_oid_Text), (11, conSem c_r03_Text), (12, conSem c_oid_May), (13, conSem c_r03_May), (14, i14), (26, conSem c_law03_same), (15, conSem c_law03_names)]) (q := []) (d := []) _ tyOk (by kernel_rfl) ⟨i7_ok, h8.call, h9.call, h10.call, h11.call, h12.call, h13.call, i14_ok, h26.call, h15.call, trivial⟩ trivial trivial) (by kernel_rfl) (by kernel_rfl) (Eq.mp e3 k3)

end Go.Proofs.YtkdffofjnjamlaaDoor
