/- Walks. -/
import Derived.Test.YtcaekpbmmbfeiaaDoorZLaw12cA
set_option linter.unusedVariables false
set_option linter.unusedSimpArgs false
namespace Go.Proofs.YtcaekpbmmbfeiaaDoor
open Go Go.Vc Go.Pl Go.Proofs
set_option linter.unusedVariables false
set_option linter.unusedSimpArgs false
def t17 : Prop :=
  ∀ (x : Unit), True → True → True ∧ (∀ (y : Bool × Unit), Kd.wf Kd.bool y.fst ∧ True → y.fst = mayN [((6 : Int), bs { data := #[(68 : UInt8), (69 : UInt8)] })] → y.fst = true) ∧ True
theorem e17 : t17 = Con.vc c_law12_there GL (mkEnv ty [(29, conSem c_name_May)] [] [] [0]) {} Tryd.f17.ntmps Tryd.f17.results.toList (bodyOf Tryd.f17) := by kernel_rfl
theorem k17 : t17 := by
  unfold t17
  rintro _ hx hp
  try dsimp +instances only [dft_int, dft_sl, dft_str]
  simp only [true_and, and_true, eq_self_iff_true, implies_true, reduceCtorEq, false_implies, true_implies, decide_eq_true_eq, decide_eq_false_iff_not, beq_self_eq_true, Bool.not_eq_true', ne_eq, Decidable.not_not, List.nil_append, List.length_singleton, List.length_cons, List.length_nil, Nat.zero_add, Nat.add_zero, Nat.mul_one, and_self, beq_iff_eq, Bool.not_true, Bool.not_false, Bool.not_eq_false', Bool.cond_false_right, Bool.and_eq_true, imp_self, Bool.not_eq_true, Bool.cond_true_left, Bool.or_eq_true]
  simp only [all_bool]
  rw [show bs { data := #[68, 69] } = [68, 69] by decide]
  exact may_de
theorem h17 : c_law12_there.ok Tryd.prog GL 17 := con_ok (H := {}) (mkEnv_ok (gl := GL) (l := [(29, conSem c_name_May)]) (q := []) (d := []) _ tyOk (by kernel_rfl) ⟨h29.call, trivial⟩ trivial trivial) (by kernel_rfl) (by kernel_rfl) (Eq.mp e17 k17)

def t4 : Prop :=
  ∀ (x : List (Int × List Int) × List (Int × List Int) × List (Int × List Int) × Int × Unit),
    Kd.wf (Kd.sl (Kd.pair (Kd.int IntKind.i64) Kd.str)) x.fst ∧
        Kd.wf (Kd.sl (Kd.pair (Kd.int IntKind.i64) Kd.str)) x.snd.fst ∧ Kd.wf (Kd.sl (Kd.pair (Kd.int IntKind.i64) Kd.str)) x.snd.snd.fst ∧ Kd.wf (Kd.int IntKind.i64) x.snd.snd.snd.fst ∧ True →
      ABulk
            [AK.dat (Kd.sl (Kd.pair (Kd.int IntKind.i64) Kd.str)), AK.dat (Kd.sl (Kd.pair (Kd.int IntKind.i64) Kd.str)), AK.dat (Kd.sl (Kd.pair (Kd.int IntKind.i64) Kd.str)),
              AK.dat (Kd.int IntKind.i64)]
            x ≤
          (1048576 : Nat) →
        IntKind.wrap IntKind.u64 (IntKind.wrap IntKind.u64 (↑(List.length x.fst) : Int) + (1 : Int)) ≠ (0 : Int) ∧
          ∃ (J : Bool × Unit → Unit → Prop),
            ((List.length x.fst ≤ (1000000000 : Nat) ∧
                  List.length x.fst ≤ (1000000000 : Nat) ∧
                    (∀ (a : Int × List Int), a ∈ x.fst → List.length a.snd ≤ (100000000 : Nat)) ∧ ∀ (a : Int × List Int), a ∈ x.fst → List.length a.snd ≤ (100000000 : Nat)) ∧
                (∀ (y : Bool × Unit),
                    Kd.wf Kd.bool y.fst ∧ True →
                      y.fst = sameN x.fst x.fst →
                        ((!y.fst) = false → True) ∧
                          ((!y.fst) = false → True) ∧
                            ((!y.fst) = false →
                                ((!y.fst) == false) = true ∧
                                  ((!y.fst) == false) = true ∧
                                    (List.length x.fst ≤ (1000000000 : Nat) ∧
                                        List.length x.snd.fst ≤ (1000000000 : Nat) ∧
                                          (∀ (a : Int × List Int), a ∈ x.fst → List.length a.snd ≤ (100000000 : Nat)) ∧ ∀ (a : Int × List Int), a ∈ x.snd.fst → List.length a.snd ≤ (100000000 : Nat)) ∧
                                      (∀ (y : Bool × Unit),
                                          Kd.wf Kd.bool y.fst ∧ True →
                                            y.fst = sameN x.fst x.snd.fst →
                                              (List.length x.snd.fst ≤ (1000000000 : Nat) ∧
                                                  List.length x.fst ≤ (1000000000 : Nat) ∧
                                                    (∀ (a : Int × List Int), a ∈ x.snd.fst → List.length a.snd ≤ (100000000 : Nat)) ∧
                                                      ∀ (a : Int × List Int), a ∈ x.fst → List.length a.snd ≤ (100000000 : Nat)) ∧
                                                (∀ (y_1 : Bool × Unit),
                                                    Kd.wf Kd.bool y_1.fst ∧ True →
                                                      y_1.fst = sameN x.snd.fst x.fst →
                                                        (decide (y.fst ≠ y_1.fst) = false → True) ∧
                                                          (decide (y.fst ≠ y_1.fst) = false → True) ∧
                                                            (decide (y.fst ≠ y_1.fst) = false → True) ∧
                                                              (decide (y.fst ≠ y_1.fst) = false →
                                                                  (decide (y.fst ≠ y_1.fst) == false) = true ∧
                                                                    (decide (y.fst ≠ y_1.fst) == false) = true ∧
                                                                      ((0 : Int) ≤
                                                                            IntKind.wrap IntKind.i64
                                                                              (Int.tmod (IntKind.wrap IntKind.u64 x.snd.snd.snd.fst)
                                                                                (IntKind.wrap IntKind.u64 (IntKind.wrap IntKind.u64 (↑(List.length x.fst) : Int) + (1 : Int)))) ∧
                                                                          IntKind.wrap IntKind.i64
                                                                              (Int.tmod (IntKind.wrap IntKind.u64 x.snd.snd.snd.fst)
                                                                                (IntKind.wrap IntKind.u64 (IntKind.wrap IntKind.u64 (↑(List.length x.fst) : Int) + (1 : Int)))) ≤
                                                                            (↑(List.length x.fst) : Int)) ∧
                                                                        True) ∧
                                                                (decide (y.fst ≠ y_1.fst) = false →
                                                                    (decide (y.fst ≠ y_1.fst) == false) = true ∧
                                                                      (decide (y.fst ≠ y_1.fst) == false) = true ∧
                                                                        (List.length
                                                                                (List.take
                                                                                  (Int.toNat
                                                                                    (IntKind.wrap IntKind.i64
                                                                                      (Int.tmod (IntKind.wrap IntKind.u64 x.snd.snd.snd.fst)
                                                                                        (IntKind.wrap IntKind.u64 (IntKind.wrap IntKind.u64 (↑(List.length x.fst) : Int) + (1 : Int))))))
                                                                                  x.fst) ≤
                                                                              (1000000000 : Nat) ∧
                                                                            (∀ (a : Int × List Int), a ∈ x.fst → List.length a.snd ≤ (100000000 : Nat)) ∧
                                                                              ∀ (a : Int × List Int),
                                                                                a ∈
                                                                                    List.take
                                                                                      (Int.toNat
                                                                                        (IntKind.wrap IntKind.i64
                                                                                          (Int.tmod (IntKind.wrap IntKind.u64 x.snd.snd.snd.fst)
                                                                                            (IntKind.wrap IntKind.u64 (IntKind.wrap IntKind.u64 (↑(List.length x.fst) : Int) + (1 : Int))))))
                                                                                      x.fst →
                                                                                  List.length a.snd ≤ (100000000 : Nat)) ∧
                                                                          (∀ (y : Bool × Unit),
                                                                              Kd.wf Kd.bool y.fst ∧ True →
                                                                                y.fst =
                                                                                    beginsD x.fst
                                                                                      (List.take
                                                                                        (Int.toNat
                                                                                          (IntKind.wrap IntKind.i64
                                                                                            (Int.tmod (IntKind.wrap IntKind.u64 x.snd.snd.snd.fst)
                                                                                              (IntKind.wrap IntKind.u64 (IntKind.wrap IntKind.u64 (↑(List.length x.fst) : Int) + (1 : Int))))))
                                                                                        x.fst) →
                                                                                  ((!y.fst) = false → True) ∧
                                                                                    ((!y.fst) = false → True) ∧
                                                                                      ((!y.fst) = false →
                                                                                          ((!y.fst) == false) = true ∧
                                                                                            ((!y.fst) == false) = true ∧
                                                                                              ((0 : Int) ≤
                                                                                                    IntKind.wrap IntKind.i64
                                                                                                      (Int.tmod (IntKind.wrap IntKind.u64 x.snd.snd.snd.fst)
                                                                                                        (IntKind.wrap IntKind.u64 (IntKind.wrap IntKind.u64 (↑(List.length x.fst) : Int) + (1 : Int)))) ∧
                                                                                                  IntKind.wrap IntKind.i64
                                                                                                      (Int.tmod (IntKind.wrap IntKind.u64 x.snd.snd.snd.fst)
                                                                                                        (IntKind.wrap IntKind.u64 (IntKind.wrap IntKind.u64 (↑(List.length x.fst) : Int) + (1 : Int)))) ≤
                                                                                                    (↑(List.length x.fst) : Int)) ∧
                                                                                                True) ∧
                                                                                        ((!y.fst) = false → True) ∧
                                                                                          ((!y.fst) = false →
                                                                                              ((!y.fst) == false) = true ∧
                                                                                                ((!y.fst) == false) = true ∧
                                                                                                  (List.length x.fst ≤ (1000000000 : Nat) ∧
                                                                                                      (∀ (a : Int × List Int),
                                                                                                          a ∈
                                                                                                              List.take
                                                                                                                (Int.toNat
                                                                                                                  (IntKind.wrap IntKind.i64
                                                                                                                    (Int.tmod (IntKind.wrap IntKind.u64 x.snd.snd.snd.fst)
                                                                                                                      (IntKind.wrap IntKind.u64
                                                                                                                        (IntKind.wrap IntKind.u64 (↑(List.length x.fst) : Int) + (1 : Int))))))
                                                                                                                x.fst →
                                                                                                            List.length a.snd ≤ (100000000 : Nat)) ∧
                                                                                                        ∀ (a : Int × List Int), a ∈ x.fst → List.length a.snd ≤ (100000000 : Nat)) ∧
                                                                                                    (∀ (y : Bool × Unit),
                                                                                                        Kd.wf Kd.bool y.fst ∧ True →
                                                                                                          y.fst =
                                                                                                              beginsD
                                                                                                                (List.take
                                                                                                                  (Int.toNat
                                                                                                                    (IntKind.wrap IntKind.i64
                                                                                                                      (Int.tmod (IntKind.wrap IntKind.u64 x.snd.snd.snd.fst)
                                                                                                                        (IntKind.wrap IntKind.u64
                                                                                                                          (IntKind.wrap IntKind.u64 (↑(List.length x.fst) : Int) + (1 : Int))))))
                                                                                                                  x.fst)
                                                                                                                x.fst →
                                                                                                            (decide
                                                                                                                    (y.fst ≠
                                                                                                                      decide
                                                                                                                        (IntKind.wrap IntKind.i64
                                                                                                                            (Int.tmod (IntKind.wrap IntKind.u64 x.snd.snd.snd.fst)
                                                                                                                              (IntKind.wrap IntKind.u64
                                                                                                                                (IntKind.wrap IntKind.u64 (↑(List.length x.fst) : Int) + (1 : Int)))) =
                                                                                                                          (↑(List.length x.fst) : Int))) =
                                                                                                                  true →
                                                                                                                false = true) ∧
                                                                                                              (decide
                                                                                                                    (y.fst ≠
                                                                                                                      decide
                                                                                                                        (IntKind.wrap IntKind.i64
                                                                                                                            (Int.tmod (IntKind.wrap IntKind.u64 x.snd.snd.snd.fst)
                                                                                                                              (IntKind.wrap IntKind.u64
                                                                                                                                (IntKind.wrap IntKind.u64 (↑(List.length x.fst) : Int) + (1 : Int)))) =
                                                                                                                          (↑(List.length x.fst) : Int))) =
                                                                                                                  false →
                                                                                                                IntKind.wrap IntKind.i64
                                                                                                                      (Int.tmod (IntKind.wrap IntKind.u64 x.snd.snd.snd.fst)
                                                                                                                        (IntKind.wrap IntKind.u64
                                                                                                                          (IntKind.wrap IntKind.u64 (↑(List.length x.fst) : Int) + (1 : Int)))) =
                                                                                                                    IntKind.wrap IntKind.i64
                                                                                                                      (Int.tmod (IntKind.wrap IntKind.u64 x.snd.snd.snd.fst)
                                                                                                                        (IntKind.wrap IntKind.u64
                                                                                                                          (IntKind.wrap IntKind.u64 (↑(List.length x.fst) : Int) + (1 : Int)))) ∧
                                                                                                                  x.fst = x.fst ∧
                                                                                                                    x.snd.fst = x.snd.fst ∧
                                                                                                                      x.snd.snd.fst = x.snd.snd.fst ∧
                                                                                                                        x.snd.snd.snd.fst = x.snd.snd.snd.fst ∧ J (false, ()) ())) ∧
                                                                                                      True) ∧
                                                                                            ((!y.fst) = !false → false = true)) ∧
                                                                            True) ∧
                                                                  (decide (y.fst ≠ y_1.fst) = !false → false = true)) ∧
                                                  True) ∧
                                        True) ∧
                              ((!y.fst) = !false → false = true)) ∧
                  True) ∧
              ∀ (u : Bool × Unit) (z : Unit),
                Kd.wf Kd.bool u.fst ∧ True →
                  True →
                    J u z →
                      ∃ (J : Bool × Unit → Unit → Prop),
                        ((List.length x.fst ≤ (1000000000 : Nat) ∧
                              List.length x.snd.fst ≤ (1000000000 : Nat) ∧
                                (∀ (a : Int × List Int), a ∈ x.fst → List.length a.snd ≤ (100000000 : Nat)) ∧ ∀ (a : Int × List Int), a ∈ x.snd.fst → List.length a.snd ≤ (100000000 : Nat)) ∧
                            (∀ (y : Bool × Unit),
                                Kd.wf Kd.bool y.fst ∧ True →
                                  y.fst = sameN x.fst x.snd.fst →
                                    (y.fst = true → True) ∧
                                      (y.fst = true → True) ∧
                                        (y.fst = true →
                                            (y.fst == true) = true ∧
                                              (y.fst == true) = true ∧
                                                (List.length x.snd.fst ≤ (1000000000 : Nat) ∧
                                                    List.length x.snd.snd.fst ≤ (1000000000 : Nat) ∧
                                                      (∀ (a : Int × List Int), a ∈ x.snd.fst → List.length a.snd ≤ (100000000 : Nat)) ∧
                                                        ∀ (a : Int × List Int), a ∈ x.snd.snd.fst → List.length a.snd ≤ (100000000 : Nat)) ∧
                                                  (∀ (y : Bool × Unit),
                                                      Kd.wf Kd.bool y.fst ∧ True →
                                                        y.fst = sameN x.snd.fst x.snd.snd.fst →
                                                          (y.fst = true → True) ∧
                                                            (y.fst = true → True) ∧
                                                              (y.fst = true →
                                                                  (y.fst == true) = true ∧
                                                                    (y.fst == true) = true ∧
                                                                      (List.length x.fst ≤ (1000000000 : Nat) ∧
                                                                          List.length x.snd.snd.fst ≤ (1000000000 : Nat) ∧
                                                                            (∀ (a : Int × List Int), a ∈ x.fst → List.length a.snd ≤ (100000000 : Nat)) ∧
                                                                              ∀ (a : Int × List Int), a ∈ x.snd.snd.fst → List.length a.snd ≤ (100000000 : Nat)) ∧
                                                                        (∀ (y : Bool × Unit),
                                                                            Kd.wf Kd.bool y.fst ∧ True →
                                                                              y.fst = sameN x.fst x.snd.snd.fst →
                                                                                ((!y.fst) = false → True) ∧
                                                                                  ((!y.fst) = false → True) ∧
                                                                                    ((!y.fst) = false →
                                                                                        ((!y.fst) == false) = true ∧
                                                                                          ((!y.fst) == false) = true ∧
                                                                                            (List.length x.snd.fst ≤ (1000000000 : Nat) ∧
                                                                                                (∀ (a : Int × List Int), a ∈ x.fst → List.length a.snd ≤ (100000000 : Nat)) ∧
                                                                                                  ∀ (a : Int × List Int), a ∈ x.snd.fst → List.length a.snd ≤ (100000000 : Nat)) ∧
                                                                                              (∀ (y : Bool × Unit),
                                                                                                  Kd.wf Kd.bool y.fst ∧ True →
                                                                                                    y.fst = beginsD x.fst x.snd.fst →
                                                                                                      (y.fst = true → True) ∧
                                                                                                        (y.fst = true → True) ∧
                                                                                                          (y.fst = true →
                                                                                                              (y.fst == true) = true ∧
                                                                                                                (y.fst == true) = true ∧
                                                                                                                  (List.length x.snd.snd.fst ≤ (1000000000 : Nat) ∧
                                                                                                                      (∀ (a : Int × List Int), a ∈ x.snd.fst → List.length a.snd ≤ (100000000 : Nat)) ∧
                                                                                                                        ∀ (a : Int × List Int),
                                                                                                                          a ∈ x.snd.snd.fst → List.length a.snd ≤ (100000000 : Nat)) ∧
                                                                                                                    (∀ (y : Bool × Unit),
                                                                                                                        Kd.wf Kd.bool y.fst ∧ True →
                                                                                                                          y.fst = beginsD x.snd.fst x.snd.snd.fst →
                                                                                                                            (y.fst = true → True) ∧
                                                                                                                              (y.fst = true → True) ∧
                                                                                                                                (y.fst = true →
                                                                                                                                    (y.fst == true) = true ∧
                                                                                                                                      (y.fst == true) = true ∧
                                                                                                                                        (List.length x.snd.snd.fst ≤ (1000000000 : Nat) ∧
                                                                                                                                            (∀ (a : Int × List Int),
                                                                                                                                                a ∈ x.fst → List.length a.snd ≤ (100000000 : Nat)) ∧
                                                                                                                                              ∀ (a : Int × List Int),
                                                                                                                                                a ∈ x.snd.snd.fst →
                                                                                                                                                  List.length a.snd ≤ (100000000 : Nat)) ∧
                                                                                                                                          (∀ (y : Bool × Unit),
                                                                                                                                              Kd.wf Kd.bool y.fst ∧ True →
                                                                                                                                                y.fst = beginsD x.fst x.snd.snd.fst →
                                                                                                                                                  ((!y.fst) = true → false = true) ∧
                                                                                                                                                    ((!y.fst) = false →
                                                                                                                                                      IntKind.wrap IntKind.i64
                                                                                                                                                            (Int.tmod
                                                                                                                                                              (IntKind.wrap IntKind.u64 x.snd.snd.snd.fst)
                                                                                                                                                              (IntKind.wrap IntKind.u64
                                                                                                                                                                (IntKind.wrap IntKind.u64
                                                                                                                                                                    (↑(List.length x.fst) : Int) +
                                                                                                                                                                  (1 : Int)))) =
                                                                                                                                                          IntKind.wrap IntKind.i64
                                                                                                                                                            (Int.tmod
                                                                                                                                                              (IntKind.wrap IntKind.u64 x.snd.snd.snd.fst)
                                                                                                                                                              (IntKind.wrap IntKind.u64
                                                                                                                                                                (IntKind.wrap IntKind.u64
                                                                                                                                                                    (↑(List.length x.fst) : Int) +
                                                                                                                                                                  (1 : Int)))) ∧
                                                                                                                                                        x.fst = x.fst ∧
                                                                                                                                                          x.snd.fst = x.snd.fst ∧
                                                                                                                                                            x.snd.snd.fst = x.snd.snd.fst ∧
                                                                                                                                                              x.snd.snd.snd.fst = x.snd.snd.snd.fst ∧
                                                                                                                                                                J (u.fst, ()) ())) ∧
                                                                                                                                            True) ∧
                                                                                                                                  (y.fst = !true →
                                                                                                                                    IntKind.wrap IntKind.i64
                                                                                                                                          (Int.tmod (IntKind.wrap IntKind.u64 x.snd.snd.snd.fst)
                                                                                                                                            (IntKind.wrap IntKind.u64
                                                                                                                                              (IntKind.wrap IntKind.u64 (↑(List.length x.fst) : Int) +
                                                                                                                                                (1 : Int)))) =
                                                                                                                                        IntKind.wrap IntKind.i64
                                                                                                                                          (Int.tmod (IntKind.wrap IntKind.u64 x.snd.snd.snd.fst)
                                                                                                                                            (IntKind.wrap IntKind.u64
                                                                                                                                              (IntKind.wrap IntKind.u64 (↑(List.length x.fst) : Int) +
                                                                                                                                                (1 : Int)))) ∧
                                                                                                                                      x.fst = x.fst ∧
                                                                                                                                        x.snd.fst = x.snd.fst ∧
                                                                                                                                          x.snd.snd.fst = x.snd.snd.fst ∧
                                                                                                                                            x.snd.snd.snd.fst = x.snd.snd.snd.fst ∧ J (u.fst, ()) ())) ∧
                                                                                                                      True) ∧
                                                                                                            (y.fst = !true →
                                                                                                              IntKind.wrap IntKind.i64
                                                                                                                    (Int.tmod (IntKind.wrap IntKind.u64 x.snd.snd.snd.fst)
                                                                                                                      (IntKind.wrap IntKind.u64
                                                                                                                        (IntKind.wrap IntKind.u64 (↑(List.length x.fst) : Int) + (1 : Int)))) =
                                                                                                                  IntKind.wrap IntKind.i64
                                                                                                                    (Int.tmod (IntKind.wrap IntKind.u64 x.snd.snd.snd.fst)
                                                                                                                      (IntKind.wrap IntKind.u64
                                                                                                                        (IntKind.wrap IntKind.u64 (↑(List.length x.fst) : Int) + (1 : Int)))) ∧
                                                                                                                x.fst = x.fst ∧
                                                                                                                  x.snd.fst = x.snd.fst ∧
                                                                                                                    x.snd.snd.fst = x.snd.snd.fst ∧
                                                                                                                      x.snd.snd.snd.fst = x.snd.snd.snd.fst ∧ J (u.fst, ()) ())) ∧
                                                                                                True) ∧
                                                                                      ((!y.fst) = !false → false = true)) ∧
                                                                          True) ∧
                                                                (y.fst = !true →
                                                                  (List.length x.snd.fst ≤ (1000000000 : Nat) ∧
                                                                      (∀ (a : Int × List Int), a ∈ x.fst → List.length a.snd ≤ (100000000 : Nat)) ∧
                                                                        ∀ (a : Int × List Int), a ∈ x.snd.fst → List.length a.snd ≤ (100000000 : Nat)) ∧
                                                                    (∀ (y : Bool × Unit),
                                                                        Kd.wf Kd.bool y.fst ∧ True →
                                                                          y.fst = beginsD x.fst x.snd.fst →
                                                                            (y.fst = true → True) ∧
                                                                              (y.fst = true → True) ∧
                                                                                (y.fst = true →
                                                                                    (y.fst == true) = true ∧
                                                                                      (y.fst == true) = true ∧
                                                                                        (List.length x.snd.snd.fst ≤ (1000000000 : Nat) ∧
                                                                                            (∀ (a : Int × List Int), a ∈ x.snd.fst → List.length a.snd ≤ (100000000 : Nat)) ∧
                                                                                              ∀ (a : Int × List Int), a ∈ x.snd.snd.fst → List.length a.snd ≤ (100000000 : Nat)) ∧
                                                                                          (∀ (y : Bool × Unit),
                                                                                              Kd.wf Kd.bool y.fst ∧ True →
                                                                                                y.fst = beginsD x.snd.fst x.snd.snd.fst →
                                                                                                  (y.fst = true → True) ∧
                                                                                                    (y.fst = true → True) ∧
                                                                                                      (y.fst = true →
                                                                                                          (y.fst == true) = true ∧
                                                                                                            (y.fst == true) = true ∧
                                                                                                              (List.length x.snd.snd.fst ≤ (1000000000 : Nat) ∧
                                                                                                                  (∀ (a : Int × List Int), a ∈ x.fst → List.length a.snd ≤ (100000000 : Nat)) ∧
                                                                                                                    ∀ (a : Int × List Int), a ∈ x.snd.snd.fst → List.length a.snd ≤ (100000000 : Nat)) ∧
                                                                                                                (∀ (y : Bool × Unit),
                                                                                                                    Kd.wf Kd.bool y.fst ∧ True →
                                                                                                                      y.fst = beginsD x.fst x.snd.snd.fst →
                                                                                                                        ((!y.fst) = true → false = true) ∧
                                                                                                                          ((!y.fst) = false →
                                                                                                                            IntKind.wrap IntKind.i64
                                                                                                                                  (Int.tmod (IntKind.wrap IntKind.u64 x.snd.snd.snd.fst)
                                                                                                                                    (IntKind.wrap IntKind.u64
                                                                                                                                      (IntKind.wrap IntKind.u64 (↑(List.length x.fst) : Int) +
                                                                                                                                        (1 : Int)))) =
                                                                                                                                IntKind.wrap IntKind.i64
                                                                                                                                  (Int.tmod (IntKind.wrap IntKind.u64 x.snd.snd.snd.fst)
                                                                                                                                    (IntKind.wrap IntKind.u64
                                                                                                                                      (IntKind.wrap IntKind.u64 (↑(List.length x.fst) : Int) +
                                                                                                                                        (1 : Int)))) ∧
                                                                                                                              x.fst = x.fst ∧
                                                                                                                                x.snd.fst = x.snd.fst ∧
                                                                                                                                  x.snd.snd.fst = x.snd.snd.fst ∧
                                                                                                                                    x.snd.snd.snd.fst = x.snd.snd.snd.fst ∧ J (u.fst, ()) ())) ∧
                                                                                                                  True) ∧
                                                                                                        (y.fst = !true →
                                                                                                          IntKind.wrap IntKind.i64
                                                                                                                (Int.tmod (IntKind.wrap IntKind.u64 x.snd.snd.snd.fst)
                                                                                                                  (IntKind.wrap IntKind.u64
                                                                                                                    (IntKind.wrap IntKind.u64 (↑(List.length x.fst) : Int) + (1 : Int)))) =
                                                                                                              IntKind.wrap IntKind.i64
                                                                                                                (Int.tmod (IntKind.wrap IntKind.u64 x.snd.snd.snd.fst)
                                                                                                                  (IntKind.wrap IntKind.u64
                                                                                                                    (IntKind.wrap IntKind.u64 (↑(List.length x.fst) : Int) + (1 : Int)))) ∧
                                                                                                            x.fst = x.fst ∧
                                                                                                              x.snd.fst = x.snd.fst ∧
                                                                                                                x.snd.snd.fst = x.snd.snd.fst ∧
                                                                                                                  x.snd.snd.snd.fst = x.snd.snd.snd.fst ∧ J (u.fst, ()) ())) ∧
                                                                                            True) ∧
                                                                                  (y.fst = !true →
                                                                                    IntKind.wrap IntKind.i64
                                                                                          (Int.tmod (IntKind.wrap IntKind.u64 x.snd.snd.snd.fst)
                                                                                            (IntKind.wrap IntKind.u64 (IntKind.wrap IntKind.u64 (↑(List.length x.fst) : Int) + (1 : Int)))) =
                                                                                        IntKind.wrap IntKind.i64
                                                                                          (Int.tmod (IntKind.wrap IntKind.u64 x.snd.snd.snd.fst)
                                                                                            (IntKind.wrap IntKind.u64 (IntKind.wrap IntKind.u64 (↑(List.length x.fst) : Int) + (1 : Int)))) ∧
                                                                                      x.fst = x.fst ∧
                                                                                        x.snd.fst = x.snd.fst ∧
                                                                                          x.snd.snd.fst = x.snd.snd.fst ∧ x.snd.snd.snd.fst = x.snd.snd.snd.fst ∧ J (u.fst, ()) ())) ∧
                                                                      True)) ∧
                                                    True) ∧
                                          (y.fst = !true →
                                            (List.length x.snd.fst ≤ (1000000000 : Nat) ∧
                                                (∀ (a : Int × List Int), a ∈ x.fst → List.length a.snd ≤ (100000000 : Nat)) ∧
                                                  ∀ (a : Int × List Int), a ∈ x.snd.fst → List.length a.snd ≤ (100000000 : Nat)) ∧
                                              (∀ (y : Bool × Unit),
                                                  Kd.wf Kd.bool y.fst ∧ True →
                                                    y.fst = beginsD x.fst x.snd.fst →
                                                      (y.fst = true → True) ∧
                                                        (y.fst = true → True) ∧
                                                          (y.fst = true →
                                                              (y.fst == true) = true ∧
                                                                (y.fst == true) = true ∧
                                                                  (List.length x.snd.snd.fst ≤ (1000000000 : Nat) ∧
                                                                      (∀ (a : Int × List Int), a ∈ x.snd.fst → List.length a.snd ≤ (100000000 : Nat)) ∧
                                                                        ∀ (a : Int × List Int), a ∈ x.snd.snd.fst → List.length a.snd ≤ (100000000 : Nat)) ∧
                                                                    (∀ (y : Bool × Unit),
                                                                        Kd.wf Kd.bool y.fst ∧ True →
                                                                          y.fst = beginsD x.snd.fst x.snd.snd.fst →
                                                                            (y.fst = true → True) ∧
                                                                              (y.fst = true → True) ∧
                                                                                (y.fst = true →
                                                                                    (y.fst == true) = true ∧
                                                                                      (y.fst == true) = true ∧
                                                                                        (List.length x.snd.snd.fst ≤ (1000000000 : Nat) ∧
                                                                                            (∀ (a : Int × List Int), a ∈ x.fst → List.length a.snd ≤ (100000000 : Nat)) ∧
                                                                                              ∀ (a : Int × List Int), a ∈ x.snd.snd.fst → List.length a.snd ≤ (100000000 : Nat)) ∧
                                                                                          (∀ (y : Bool × Unit),
                                                                                              Kd.wf Kd.bool y.fst ∧ True →
                                                                                                y.fst = beginsD x.fst x.snd.snd.fst →
                                                                                                  ((!y.fst) = true → false = true) ∧
                                                                                                    ((!y.fst) = false →
                                                                                                      IntKind.wrap IntKind.i64
                                                                                                            (Int.tmod (IntKind.wrap IntKind.u64 x.snd.snd.snd.fst)
                                                                                                              (IntKind.wrap IntKind.u64
                                                                                                                (IntKind.wrap IntKind.u64 (↑(List.length x.fst) : Int) + (1 : Int)))) =
                                                                                                          IntKind.wrap IntKind.i64
                                                                                                            (Int.tmod (IntKind.wrap IntKind.u64 x.snd.snd.snd.fst)
                                                                                                              (IntKind.wrap IntKind.u64
                                                                                                                (IntKind.wrap IntKind.u64 (↑(List.length x.fst) : Int) + (1 : Int)))) ∧
                                                                                                        x.fst = x.fst ∧
                                                                                                          x.snd.fst = x.snd.fst ∧
                                                                                                            x.snd.snd.fst = x.snd.snd.fst ∧ x.snd.snd.snd.fst = x.snd.snd.snd.fst ∧ J (u.fst, ()) ())) ∧
                                                                                            True) ∧
                                                                                  (y.fst = !true →
                                                                                    IntKind.wrap IntKind.i64
                                                                                          (Int.tmod (IntKind.wrap IntKind.u64 x.snd.snd.snd.fst)
                                                                                            (IntKind.wrap IntKind.u64 (IntKind.wrap IntKind.u64 (↑(List.length x.fst) : Int) + (1 : Int)))) =
                                                                                        IntKind.wrap IntKind.i64
                                                                                          (Int.tmod (IntKind.wrap IntKind.u64 x.snd.snd.snd.fst)
                                                                                            (IntKind.wrap IntKind.u64 (IntKind.wrap IntKind.u64 (↑(List.length x.fst) : Int) + (1 : Int)))) ∧
                                                                                      x.fst = x.fst ∧
                                                                                        x.snd.fst = x.snd.fst ∧
                                                                                          x.snd.snd.fst = x.snd.snd.fst ∧ x.snd.snd.snd.fst = x.snd.snd.snd.fst ∧ J (u.fst, ()) ())) ∧
                                                                      True) ∧
                                                            (y.fst = !true →
                                                              IntKind.wrap IntKind.i64
                                                                    (Int.tmod (IntKind.wrap IntKind.u64 x.snd.snd.snd.fst)
                                                                      (IntKind.wrap IntKind.u64 (IntKind.wrap IntKind.u64 (↑(List.length x.fst) : Int) + (1 : Int)))) =
                                                                  IntKind.wrap IntKind.i64
                                                                    (Int.tmod (IntKind.wrap IntKind.u64 x.snd.snd.snd.fst)
                                                                      (IntKind.wrap IntKind.u64 (IntKind.wrap IntKind.u64 (↑(List.length x.fst) : Int) + (1 : Int)))) ∧
                                                                x.fst = x.fst ∧ x.snd.fst = x.snd.fst ∧ x.snd.snd.fst = x.snd.snd.fst ∧ x.snd.snd.snd.fst = x.snd.snd.snd.fst ∧ J (u.fst, ()) ())) ∧
                                                True)) ∧
                              True) ∧
                          ∀ (u : Bool × Unit) (z : Unit),
                            Kd.wf Kd.bool u.fst ∧ True →
                              True →
                                J u z →
                                  (List.length x.fst ≤ (1000000000 : Nat) ∧
                                      List.length x.snd.fst ≤ (1000000000 : Nat) ∧
                                        (∀ (a : Int × List Int), a ∈ x.fst → List.length a.snd ≤ (100000000 : Nat)) ∧ ∀ (a : Int × List Int), a ∈ x.snd.fst → List.length a.snd ≤ (100000000 : Nat)) ∧
                                    (∀ (y : Bool × Unit),
                                        Kd.wf Kd.bool y.fst ∧ True →
                                          y.fst = sameN x.fst x.snd.fst →
                                            (List.length x.snd.fst ≤ (1000000000 : Nat) ∧
                                                (∀ (a : Int × List Int), a ∈ x.fst → List.length a.snd ≤ (100000000 : Nat)) ∧
                                                  ∀ (a : Int × List Int), a ∈ x.snd.fst → List.length a.snd ≤ (100000000 : Nat)) ∧
                                              (∀ (y_1 : Bool × Unit),
                                                  Kd.wf Kd.bool y_1.fst ∧ True →
                                                    y_1.fst = beginsD x.fst x.snd.fst →
                                                      (y_1.fst = true → True) ∧
                                                        (y_1.fst = true → True) ∧
                                                          (y_1.fst = true →
                                                              (y_1.fst == true) = true ∧
                                                                (y_1.fst == true) = true ∧
                                                                  (List.length x.fst ≤ (1000000000 : Nat) ∧
                                                                      (∀ (a : Int × List Int), a ∈ x.snd.fst → List.length a.snd ≤ (100000000 : Nat)) ∧
                                                                        ∀ (a : Int × List Int), a ∈ x.fst → List.length a.snd ≤ (100000000 : Nat)) ∧
                                                                    (∀ (y_2 : Bool × Unit),
                                                                        Kd.wf Kd.bool y_2.fst ∧ True →
                                                                          y_2.fst = beginsD x.snd.fst x.fst →
                                                                            (decide (y.fst = y_2.fst) = true →
                                                                                True ∧ (∀ (y : Bool × Unit), Kd.wf Kd.bool y.fst ∧ True → y.fst = true → y.fst = true) ∧ True) ∧
                                                                              (decide (y.fst = y_2.fst) = !true → false = true)) ∧
                                                                      True) ∧
                                                            (y_1.fst = !true →
                                                              (decide (y.fst = false) = true → True ∧ (∀ (y : Bool × Unit), Kd.wf Kd.bool y.fst ∧ True → y.fst = true → y.fst = true) ∧ True) ∧
                                                                (decide (y.fst = false) = !true → false = true))) ∧
                                                True) ∧
                                      True
theorem e4 : t4 = Con.vc c_law12_NameOrder GL (mkEnv ty [(11, conSem c_name_Same), (13, conSem c_name_Begins), (17, conSem c_law12_there)] [] [] [0, 1, 2, 3, 8, 9, 50, 80]) {joins := [4,6]} Tryd.f4.ntmps Tryd.f4.results.toList (bodyOf Tryd.f4) := by kernel_rfl
theorem k4 : t4 := by
  unfold t4
  rintro ⟨a, b, c, k, _⟩ hx hp
  have hp : Kd.bulk (Kd.sl AT) a + (Kd.bulk (Kd.sl AT) b + (Kd.bulk (Kd.sl AT) c + (1 + 0))) ≤ 1048576 := hp
  have hlen : ∀ l : List AttrT, Kd.bulk (Kd.sl AT) l ≤ 1048576 → l.length ≤ 1048576 ∧ ∀ x ∈ l, x.2.length ≤ 100000000 := fun l hl => by
    obtain ⟨h1, h2⟩ := bulk_attrs l
    exact ⟨by omega, fun x hx => by have := h1 x hx; omega⟩
  obtain ⟨a1, a2⟩ := hlen a (by omega)
  obtain ⟨b1, b2⟩ := hlen b (by omega)
  obtain ⟨c1, c2⟩ := hlen c (by omega)
  clear hlen hp hx
  try dsimp +instances only [dft_int, dft_sl, dft_str]
  simp only [true_and, and_true, eq_self_iff_true, implies_true, reduceCtorEq, false_implies, true_implies, decide_eq_true_eq, decide_eq_false_iff_not, beq_self_eq_true, Bool.not_eq_true', ne_eq, Decidable.not_not, List.nil_append, List.length_singleton, List.length_cons, List.length_nil, Nat.zero_add, Nat.add_zero, Nat.mul_one, and_self, beq_iff_eq, Bool.not_true, Bool.not_false, Bool.not_eq_false', Bool.cond_false_right, Bool.and_eq_true, imp_self, Bool.not_eq_true, Bool.cond_true_left, Bool.or_eq_true]
  simp only [all_bool]
  have hu : ∀ i : Int, 0 ≤ i → i ≤ 9000000000000000000 → IntKind.wrap .u64 i = i := fun i h0 h1 => by
    simp [IntKind.wrap, IntKind.signed, IntKind.bits]; omega
  have hk : 0 ≤ IntKind.wrap .u64 k := by simp [IntKind.wrap, IntKind.signed, IntKind.bits]; omega
  rw [hu a.length (by omega) (by omega), hu (a.length + 1) (by omega) (by omega)]
  generalize hn : IntKind.wrap .i64 ((IntKind.wrap .u64 k).tmod ((a.length : Int) + 1)) = n
  have hn2 : 0 ≤ n ∧ n ≤ a.length := by
    have h1 : (IntKind.wrap .u64 k).tmod ((a.length : Int) + 1) = (IntKind.wrap .u64 k) % ((a.length : Int) + 1) := Int.tmod_eq_emod_of_nonneg hk
    have h2 := Int.emod_nonneg (IntKind.wrap .u64 k) (show ((a.length : Int) + 1) ≠ 0 by omega)
    have h3 := Int.emod_lt_of_pos (IntKind.wrap .u64 k) (show 0 < ((a.length : Int) + 1) by omega)
    rw [h1, wrapK _ (by omega) (by omega)] at hn
    omega
  have t1 := take_le_len a n.toNat
  have t2 : ∀ x ∈ a.take n.toNat, x.2.length ≤ 100000000 := fun x hx => a2 x (List.mem_of_mem_take hx)
  have f1 : sameN a a = true := (same_iff a a).2 ⟨begins_refl a, begins_refl a⟩
  have f2 := same_symm b a
  have f3 := begins_take a n.toNat
  have f4 : beginsD (a.take n.toNat) a = decide (n = a.length) := by
    rw [take_begins a n.toNat (by omega)]
    exact decide_eq_decide.2 (by omega)
  have g1 : a.length ≤ 1000000000 := by omega
  have g2 : b.length ≤ 1000000000 := by omega
  have g3 : c.length ≤ 1000000000 := by omega
  have g4 : (a.take n.toNat).length ≤ 1000000000 := by omega
  have s1 : sameN a b = true → sameN b c = true → sameN a c = true := fun h1 h2 => by
    rw [same_iff] at h1 h2 ⊢
    exact ⟨begins_trans h1.1 h2.1, begins_trans h2.2 h1.2⟩
  have s2 : beginsD a b = true → beginsD b c = true → beginsD a c = true := begins_trans
  have s3 := same_iff a b
  refine ⟨by omega, fun _ _ => True, ⟨⟨g1, g1, a2⟩, ?_⟩, ?_⟩
  · rw [f1, f2, f3, f4]
    simp only [g1, g2, g4, a2, b2, t2, hn2, f3, f4, true_and, and_true, implies_true, ne_eq, not_true_eq_false, false_implies, reduceCtorEq, true_implies, eq_self_iff_true]
    exact ⟨⟨a2, b2⟩, ⟨b2, a2⟩, ⟨a2, t2⟩, t2, a2⟩
  · rintro ⟨u, _⟩ _ _ _
    clear f1 f2 f3 f4 hn hn2 t1 t2 g4 hk hu
    refine ⟨fun _ _ => True, ?_, ?_⟩
    · revert s1 s2 s3
      generalize sameN a b = q1
      generalize sameN b c = q2
      generalize sameN a c = q3
      generalize beginsD a b = r1
      generalize beginsD b c = r2
      generalize beginsD a c = r3
      generalize beginsD b a = r4
      intro s1 s2 s3
      have A := a2
      have B := b2
      have C := c2
      cases q1 <;> cases q2 <;> cases q3 <;> cases r1 <;> cases r2 <;> cases r3 <;> first | exact absurd (s1 rfl rfl) (by decide) | exact absurd (s2 rfl rfl) (by decide) | (simp only [g1, g2, g3, true_and, and_true, implies_true, reduceCtorEq, false_implies, true_implies, eq_self_iff_true]; simp only [and_assoc]; repeat' (first | exact A | exact B | exact C | exact trivial | apply And.intro))
    · rintro ⟨v, _⟩ _ _ _
      refine ⟨⟨g1, g2, a2, b2⟩, ⟨g2, a2, b2⟩, fun h => ⟨h, h, ⟨g1, b2, a2⟩, fun hne => hne ?_⟩, fun h hne => hne ?_⟩
      · rw [Bool.eq_iff_iff, s3, h]; simp
      · cases hq : sameN a b with
        | false => rfl
        | true => rw [(s3.1 hq).1] at h; cases h
theorem h4 : c_law12_NameOrder.ok Tryd.prog GL 4 := con_ok (H := {joins := [4,6]}) (mkEnv_ok (gl := GL) (l := [(11, conSem c_name_Same), (13, conSem c_name_Begins), (17, conSem c_law12_there)]) (q := []) (d := []) _ tyOk (by kernel_rfl) ⟨h11.call, h13.call, h17.call, trivial⟩ trivial trivial) (by kernel_rfl) (by kernel_rfl) (Eq.mp e4 k4)

end Go.Proofs.YtcaekpbmmbfeiaaDoor
