/- Walks. -/
import Derived.Test.YtcaekpbmmbfeiaaDoorZLaw12dA
set_option linter.unusedVariables false
set_option linter.unusedSimpArgs false
namespace Go.Proofs.YtcaekpbmmbfeiaaDoor
open Go Go.Vc Go.Pl Go.Proofs
set_option linter.unusedVariables false
set_option linter.unusedSimpArgs false
theorem take_back {α : Type} (a c : List α) : List.take ((a.length : Int).toNat - 0) (List.drop 0 (a ++ c)) = a := by simp
theorem got_back (a : List AttrT) (x : AttrT) (d : AttrT) : ((a ++ [x]).getD (a.length : Int).toNat d) = x := by simp [List.getD_eq_getElem?_getD]
def t35 : Prop :=
  ∀ (x : Unit), True → True → true = true
theorem e35 : t35 = Con.vc c_law12_names GL (mkEnv ty [] [] [] [0]) {} Tryd.f35.ntmps Tryd.f35.results.toList (bodyOf Tryd.f35) := by kernel_rfl
theorem k35 : t35 := by
  unfold t35
  rintro _ hx hp
  rfl
theorem h35 : c_law12_names.ok Tryd.prog GL 35 := con_ok (H := {}) (mkEnv_ok (gl := GL) (l := []) (q := []) (d := []) _ tyOk (by kernel_rfl) trivial trivial trivial) (by kernel_rfl) (by kernel_rfl) (Eq.mp e35 k35)

def t16 : Prop :=
  ∀ (x : Unit),
    True →
      True →
        True ∧
          (∀ (y : Bool × Unit),
              Kd.wf Kd.bool y.fst ∧ True →
                y.fst = mayN [((6 : Int), bs { data := #[(68 : UInt8), (69 : UInt8)] })] →
                  (y.fst = true → True ∧ (∀ (y : Bool × Unit), Kd.wf Kd.bool y.fst ∧ True → y.fst = true → y.fst = true) ∧ True) ∧ (y.fst = !true → false = true)) ∧
            True
theorem e16 : t16 = Con.vc c_law12_works GL (mkEnv ty [(29, conSem c_name_May), (35, conSem c_law12_names)] [] [] [0]) {} Tryd.f16.ntmps Tryd.f16.results.toList (bodyOf Tryd.f16) := by kernel_rfl
theorem k16 : t16 := by
  unfold t16
  rintro _ hx hp
  try dsimp +instances only [dft_int, dft_sl, dft_str]
  simp only [true_and, and_true, eq_self_iff_true, implies_true, reduceCtorEq, false_implies, true_implies, decide_eq_true_eq, decide_eq_false_iff_not, beq_self_eq_true, Bool.not_eq_true', ne_eq, Decidable.not_not, List.nil_append, List.length_singleton, List.length_cons, List.length_nil, Nat.zero_add, Nat.add_zero, Nat.mul_one, and_self, beq_iff_eq, Bool.not_true, Bool.not_false, Bool.not_eq_false', Bool.cond_false_right, Bool.and_eq_true, imp_self, Bool.not_eq_true, Bool.cond_true_left, Bool.or_eq_true]
  simp only [all_bool]
  rw [show bs { data := #[68, 69] } = [68, 69] by decide, may_de]
  intro h; cases h
theorem h16 : c_law12_works.ok Tryd.prog GL 16 := con_ok (H := {}) (mkEnv_ok (gl := GL) (l := [(29, conSem c_name_May), (35, conSem c_law12_names)]) (q := []) (d := []) _ tyOk (by kernel_rfl) ⟨h29.call, h35.call, trivial⟩ trivial trivial) (by kernel_rfl) (by kernel_rfl) (Eq.mp e16 k16)

noncomputable def i10 : CallSem := vcFn (mkEnv ty [] [] [] [0, 2]) {} Tryd.f10.ntmps Tryd.f10.results.toList (bodyOf Tryd.f10)
theorem i10_ok : CallOk Tryd.prog GL 10 i10 := inl_ok {} (mkEnv_ok (gl := GL) (l := []) (q := []) (d := []) _ tyOk (by kernel_rfl) trivial trivial trivial) (by kernel_rfl) (by kernel_rfl)

noncomputable def i15 : CallSem := vcFn (mkEnv ty [(34, conSem c_r12_Alike)] [] [] [0, 1, 4]) {} Tryd.f15.ntmps Tryd.f15.results.toList (bodyOf Tryd.f15)
theorem i15_ok : CallOk Tryd.prog GL 15 i15 := inl_ok {} (mkEnv_ok (gl := GL) (l := [(34, conSem c_r12_Alike)]) (q := []) (d := []) _ tyOk (by kernel_rfl) ⟨h34.call, trivial⟩ trivial trivial) (by kernel_rfl) (by kernel_rfl)

def t3 : Prop :=
  ∀ (x : List (Int × List Int) × List (Int × List Int) × Unit),
    Kd.wf (Kd.sl (Kd.pair (Kd.int IntKind.i64) Kd.str)) x.fst ∧ Kd.wf (Kd.sl (Kd.pair (Kd.int IntKind.i64) Kd.str)) x.snd.fst ∧ True →
      ABulk [AK.dat (Kd.sl (Kd.pair (Kd.int IntKind.i64) Kd.str)), AK.dat (Kd.sl (Kd.pair (Kd.int IntKind.i64) Kd.str))] x ≤ (1048576 : Nat) →
        (0 : Nat) < (2 : Nat) ∧
          ((0 : Nat) + List.length x.fst) * (24 : Nat) ≤ (140737488355328 : Nat) ∧
            (0 : Nat) + List.length x.fst ≤ (9223372036854775807 : Nat) ∧
              (0 : Nat) < (2 : Nat) ∧
                (List.length ([] ++ x.fst) + (1 : Nat)) * (24 : Nat) ≤ (140737488355328 : Nat) ∧
                  List.length ([] ++ x.fst) + (1 : Nat) ≤ (9223372036854775807 : Nat) ∧
                    ((0 : Int) ≤ (↑(List.length x.fst) : Int) ∧ (↑(List.length x.fst) : Int) ≤ (↑(List.length ([] ++ x.fst ++ [((77 : Int), bs { data := #[] })])) : Int)) ∧
                      (0 : Nat) < (2 : Nat) ∧
                        ((0 : Nat) + List.length x.snd.fst) * (24 : Nat) ≤ (140737488355328 : Nat) ∧
                          (0 : Nat) + List.length x.snd.fst ≤ (9223372036854775807 : Nat) ∧
                            (0 : Nat) < (2 : Nat) ∧
                              (List.length ([] ++ x.snd.fst) + (1 : Nat)) * (24 : Nat) ≤ (140737488355328 : Nat) ∧
                                List.length ([] ++ x.snd.fst) + (1 : Nat) ≤ (9223372036854775807 : Nat) ∧
                                  ((0 : Int) ≤ (↑(List.length x.snd.fst) : Int) ∧ (↑(List.length x.snd.fst) : Int) ≤ (↑(List.length ([] ++ x.snd.fst ++ [((77 : Int), bs { data := #[] })])) : Int)) ∧
                                    (List.length (List.take (Int.toNat (↑(List.length x.fst) : Int) - (0 : Nat)) (List.drop (0 : Nat) ([] ++ x.fst ++ [((77 : Int), bs { data := #[] })]))) ≤
                                          (1000000000 : Nat) ∧
                                        List.length (List.take (Int.toNat (↑(List.length x.snd.fst) : Int) - (0 : Nat)) (List.drop (0 : Nat) ([] ++ x.snd.fst ++ [((77 : Int), bs { data := #[] })]))) ≤
                                            (1000000000 : Nat) ∧
                                          (∀ (a : Int × List Int),
                                              a ∈ List.take (Int.toNat (↑(List.length x.fst) : Int) - (0 : Nat)) (List.drop (0 : Nat) ([] ++ x.fst ++ [((77 : Int), bs { data := #[] })])) →
                                                List.length a.snd ≤ (100000000 : Nat)) ∧
                                            ∀ (a : Int × List Int),
                                              a ∈ List.take (Int.toNat (↑(List.length x.snd.fst) : Int) - (0 : Nat)) (List.drop (0 : Nat) ([] ++ x.snd.fst ++ [((77 : Int), bs { data := #[] })])) →
                                                List.length a.snd ≤ (100000000 : Nat)) ∧
                                      (∀ (y : Bool × Unit),
                                          Kd.wf Kd.bool y.fst ∧ True →
                                            y.fst =
                                                sameN (List.take (Int.toNat (↑(List.length x.fst) : Int) - (0 : Nat)) (List.drop (0 : Nat) ([] ++ x.fst ++ [((77 : Int), bs { data := #[] })])))
                                                  (List.take (Int.toNat (↑(List.length x.snd.fst) : Int) - (0 : Nat)) (List.drop (0 : Nat) ([] ++ x.snd.fst ++ [((77 : Int), bs { data := #[] })]))) →
                                              (List.length x.fst ≤ (1000000000 : Nat) ∧
                                                  List.length x.snd.fst ≤ (1000000000 : Nat) ∧
                                                    (∀ (a : Int × List Int), a ∈ x.fst → List.length a.snd ≤ (100000000 : Nat)) ∧
                                                      ∀ (a : Int × List Int), a ∈ x.snd.fst → List.length a.snd ≤ (100000000 : Nat)) ∧
                                                (∀ (y_1 : Bool × Unit),
                                                    Kd.wf Kd.bool y_1.fst ∧ True →
                                                      y_1.fst = sameN x.fst x.snd.fst →
                                                        (decide (y.fst = y_1.fst) = true → True) ∧
                                                          (decide (y.fst = y_1.fst) = true → True) ∧
                                                            (decide (y.fst = y_1.fst) = true →
                                                                (decide (y.fst = y_1.fst) == true) = true ∧
                                                                  (decide (y.fst = y_1.fst) == true) = true ∧
                                                                    (List.length
                                                                            (List.take (Int.toNat (↑(List.length x.snd.fst) : Int) - (0 : Nat))
                                                                              (List.drop (0 : Nat) ([] ++ x.snd.fst ++ [((77 : Int), bs { data := #[] })]))) ≤
                                                                          (1000000000 : Nat) ∧
                                                                        (∀ (a : Int × List Int),
                                                                            a ∈
                                                                                List.take (Int.toNat (↑(List.length x.fst) : Int) - (0 : Nat))
                                                                                  (List.drop (0 : Nat) ([] ++ x.fst ++ [((77 : Int), bs { data := #[] })])) →
                                                                              List.length a.snd ≤ (100000000 : Nat)) ∧
                                                                          ∀ (a : Int × List Int),
                                                                            a ∈
                                                                                List.take (Int.toNat (↑(List.length x.snd.fst) : Int) - (0 : Nat))
                                                                                  (List.drop (0 : Nat) ([] ++ x.snd.fst ++ [((77 : Int), bs { data := #[] })])) →
                                                                              List.length a.snd ≤ (100000000 : Nat)) ∧
                                                                      (∀ (y : Bool × Unit),
                                                                          Kd.wf Kd.bool y.fst ∧ True →
                                                                            y.fst =
                                                                                beginsD
                                                                                  (List.take (Int.toNat (↑(List.length x.fst) : Int) - (0 : Nat))
                                                                                    (List.drop (0 : Nat) ([] ++ x.fst ++ [((77 : Int), bs { data := #[] })])))
                                                                                  (List.take (Int.toNat (↑(List.length x.snd.fst) : Int) - (0 : Nat))
                                                                                    (List.drop (0 : Nat) ([] ++ x.snd.fst ++ [((77 : Int), bs { data := #[] })]))) →
                                                                              (List.length x.snd.fst ≤ (1000000000 : Nat) ∧
                                                                                  (∀ (a : Int × List Int), a ∈ x.fst → List.length a.snd ≤ (100000000 : Nat)) ∧
                                                                                    ∀ (a : Int × List Int), a ∈ x.snd.fst → List.length a.snd ≤ (100000000 : Nat)) ∧
                                                                                (∀ (y_2 : Bool × Unit),
                                                                                    Kd.wf Kd.bool y_2.fst ∧ True →
                                                                                      y_2.fst = beginsD x.fst x.snd.fst →
                                                                                        (decide (y.fst = y_2.fst) = true → True) ∧
                                                                                          (decide (y.fst = y_2.fst) = true → True) ∧
                                                                                            (decide (y.fst = y_2.fst) = true →
                                                                                                (decide (y.fst = y_2.fst) == true) = true ∧
                                                                                                  (decide (y.fst = y_2.fst) == true) = true ∧
                                                                                                    (List.length
                                                                                                            (List.take (Int.toNat (↑(List.length x.fst) : Int) - (0 : Nat))
                                                                                                              (List.drop (0 : Nat) ([] ++ x.fst ++ [((77 : Int), bs { data := #[] })]))) ≤
                                                                                                          (1000000000 : Nat) ∧
                                                                                                        (∀ (a : Int × List Int),
                                                                                                            a ∈
                                                                                                                List.take (Int.toNat (↑(List.length x.snd.fst) : Int) - (0 : Nat))
                                                                                                                  (List.drop (0 : Nat) ([] ++ x.snd.fst ++ [((77 : Int), bs { data := #[] })])) →
                                                                                                              List.length a.snd ≤ (100000000 : Nat)) ∧
                                                                                                          ∀ (a : Int × List Int),
                                                                                                            a ∈
                                                                                                                List.take (Int.toNat (↑(List.length x.fst) : Int) - (0 : Nat))
                                                                                                                  (List.drop (0 : Nat) ([] ++ x.fst ++ [((77 : Int), bs { data := #[] })])) →
                                                                                                              List.length a.snd ≤ (100000000 : Nat)) ∧
                                                                                                      (∀ (y : Bool × Unit),
                                                                                                          Kd.wf Kd.bool y.fst ∧ True →
                                                                                                            y.fst =
                                                                                                                beginsD
                                                                                                                  (List.take (Int.toNat (↑(List.length x.snd.fst) : Int) - (0 : Nat))
                                                                                                                    (List.drop (0 : Nat) ([] ++ x.snd.fst ++ [((77 : Int), bs { data := #[] })])))
                                                                                                                  (List.take (Int.toNat (↑(List.length x.fst) : Int) - (0 : Nat))
                                                                                                                    (List.drop (0 : Nat) ([] ++ x.fst ++ [((77 : Int), bs { data := #[] })]))) →
                                                                                                              (List.length x.fst ≤ (1000000000 : Nat) ∧
                                                                                                                  (∀ (a : Int × List Int), a ∈ x.snd.fst → List.length a.snd ≤ (100000000 : Nat)) ∧
                                                                                                                    ∀ (a : Int × List Int), a ∈ x.fst → List.length a.snd ≤ (100000000 : Nat)) ∧
                                                                                                                (∀ (y_3 : Bool × Unit),
                                                                                                                    Kd.wf Kd.bool y_3.fst ∧ True →
                                                                                                                      y_3.fst = beginsD x.snd.fst x.fst →
                                                                                                                        (decide (y.fst = y_3.fst) = true → True) ∧
                                                                                                                          (decide (y.fst = y_3.fst) = true → True) ∧
                                                                                                                            (decide (y.fst = y_3.fst) = true →
                                                                                                                                (decide (y.fst = y_3.fst) == true) = true ∧
                                                                                                                                  (decide (y.fst = y_3.fst) == true) = true ∧
                                                                                                                                    (List.length
                                                                                                                                            (List.take
                                                                                                                                              (Int.toNat (↑(List.length x.fst) : Int) - (0 : Nat))
                                                                                                                                              (List.drop (0 : Nat)
                                                                                                                                                ([] ++ x.fst ++ [((77 : Int), bs { data := #[] })]))) ≤
                                                                                                                                          (1000000000 : Nat) ∧
                                                                                                                                        List.length x.fst ≤ (1000000000 : Nat)) ∧
                                                                                                                                      (∀ (y : Bool × Unit),
                                                                                                                                          Kd.wf Kd.bool y.fst ∧ True →
                                                                                                                                            y.fst =
                                                                                                                                                decide
                                                                                                                                                  (List.take
                                                                                                                                                      (Int.toNat (↑(List.length x.fst) : Int) - (0 : Nat))
                                                                                                                                                      (List.drop (0 : Nat)
                                                                                                                                                        ([] ++ x.fst ++
                                                                                                                                                          [((77 : Int), bs { data := #[] })])) =
                                                                                                                                                    x.fst) →
                                                                                                                                              (y.fst = true → True) ∧
                                                                                                                                                (y.fst = true → True) ∧
                                                                                                                                                  (y.fst = true → (y.fst == true) = true ∧ True) ∧
                                                                                                                                                    (y.fst = true → (y.fst == true) = true ∧ True) ∧
                                                                                                                                                      (y.fst = true →
                                                                                                                                                          (y.fst == true) = true ∧
                                                                                                                                                            (y.fst == true) = true ∧
                                                                                                                                                              ((0 : Int) ≤
                                                                                                                                                                    IntKind.wrap IntKind.i64
                                                                                                                                                                      ((↑(List.length x.fst) : Int) +
                                                                                                                                                                        (1 : Int)) ∧
                                                                                                                                                                  IntKind.wrap IntKind.i64
                                                                                                                                                                      ((↑(List.length x.fst) : Int) +
                                                                                                                                                                        (1 : Int)) ≤
                                                                                                                                                                    (↑(List.length
                                                                                                                                                                            ([] ++ x.fst ++
                                                                                                                                                                              [((77 : Int),
                                                                                                                                                                                  bs { data := #[] })]) -
                                                                                                                                                                          (0 : Nat)) :
                                                                                                                                                                      Int)) ∧
                                                                                                                                                                True) ∧
                                                                                                                                                        (y.fst = true → True) ∧
                                                                                                                                                          (y.fst = true → (y.fst == true) = true ∧ True) ∧
                                                                                                                                                            (y.fst = true →
                                                                                                                                                                (y.fst == true) = true ∧
                                                                                                                                                                  (y.fst == true) = true ∧
                                                                                                                                                                    ((0 : Int) ≤
                                                                                                                                                                          (↑(List.length x.fst) : Int) ∧
                                                                                                                                                                        (↑(List.length x.fst) : Int) <
                                                                                                                                                                          (↑(Int.toNat
                                                                                                                                                                                  (IntKind.wrap
                                                                                                                                                                                    IntKind.i64
                                                                                                                                                                                    ((↑(List.length
                                                                                                                                                                                            x.fst) :
                                                                                                                                                                                        Int) +
                                                                                                                                                                                      (1 : Int))) -
                                                                                                                                                                                (0 : Nat)) :
                                                                                                                                                                            Int)) ∧
                                                                                                                                                                      True) ∧
                                                                                                                                                              (y.fst = true →
                                                                                                                                                                  (y.fst == true) = true ∧ True) ∧
                                                                                                                                                                (y.fst = true →
                                                                                                                                                                    (y.fst == true) = true ∧ True) ∧
                                                                                                                                                                  (y.fst = true →
                                                                                                                                                                      (y.fst == true) = true ∧ True) ∧
                                                                                                                                                                    (y.fst = true →
                                                                                                                                                                        (y.fst == true) = true) ∧
                                                                                                                                                                      ((bif y.fst then
                                                                                                                                                                              decide
                                                                                                                                                                                ((List.getD
                                                                                                                                                                                      ([] ++ x.fst ++
                                                                                                                                                                                        [((77 : Int),
                                                                                                                                                                                            bs
                                                                                                                                                                                              {
                                                                                                                                                                                                data :=
                                                                                                                                                                                                  #[] })])
                                                                                                                                                                                      ((0 : Nat) +
                                                                                                                                                                                        Int.toNat
                                                                                                                                                                                          (↑(List.length
                                                                                                                                                                                                x.fst) :
                                                                                                                                                                                            Int))
                                                                                                                                                                                      (Kd.dft
                                                                                                                                                                                        (Kd.pair
                                                                                                                                                                                          (Kd.int
                                                                                                                                                                                            IntKind.i64)
                                                                                                                                                                                          Kd.str))).fst =
                                                                                                                                                                                  (77 : Int))
                                                                                                                                                                            else false) =
                                                                                                                                                                            true →
                                                                                                                                                                          True) ∧
                                                                                                                                                                        ((bif y.fst then
                                                                                                                                                                                decide
                                                                                                                                                                                  ((List.getD
                                                                                                                                                                                        ([] ++ x.fst ++
                                                                                                                                                                                          [((77 : Int),
                                                                                                                                                                                              bs
                                                                                                                                                                                                {
                                                                                                                                                                                                  data :=
                                                                                                                                                                                                    #[] })])
                                                                                                                                                                                        ((0 : Nat) +
                                                                                                                                                                                          Int.toNat
                                                                                                                                                                                            (↑(List.length
                                                                                                                                                                                                  x.fst) :
                                                                                                                                                                                              Int))
                                                                                                                                                                                        (Kd.dft
                                                                                                                                                                                          (Kd.pair
                                                                                                                                                                                            (Kd.int
                                                                                                                                                                                              IntKind.i64)
                                                                                                                                                                                            Kd.str))).fst =
                                                                                                                                                                                    (77 : Int))
                                                                                                                                                                              else false) =
                                                                                                                                                                              true →
                                                                                                                                                                            True) ∧
                                                                                                                                                                          ((bif y.fst then
                                                                                                                                                                                  decide
                                                                                                                                                                                    ((List.getD
                                                                                                                                                                                          ([] ++ x.fst ++
                                                                                                                                                                                            [((77 : Int),
                                                                                                                                                                                                bs
                                                                                                                                                                                                  {
                                                                                                                                                                                                    data :=
                                                                                                                                                                                                      #[] })])
                                                                                                                                                                                          ((0 : Nat) +
                                                                                                                                                                                            Int.toNat
                                                                                                                                                                                              (↑(List.length
                                                                                                                                                                                                    x.fst) :
                                                                                                                                                                                                Int))
                                                                                                                                                                                          (Kd.dft
                                                                                                                                                                                            (Kd.pair
                                                                                                                                                                                              (Kd.int
                                                                                                                                                                                                IntKind.i64)
                                                                                                                                                                                              Kd.str))).fst =
                                                                                                                                                                                      (77 : Int))
                                                                                                                                                                                else false) =
                                                                                                                                                                                true →
                                                                                                                                                                              ((bif y.fst then
                                                                                                                                                                                      decide
                                                                                                                                                                                        ((List.getD
                                                                                                                                                                                              ([] ++
                                                                                                                                                                                                  x.fst ++
                                                                                                                                                                                                [((77 :
                                                                                                                                                                                                      Int),
                                                                                                                                                                                                    bs
                                                                                                                                                                                                      {
                                                                                                                                                                                                        data :=
                                                                                                                                                                                                          #[] })])
                                                                                                                                                                                              ((0 : Nat) +
                                                                                                                                                                                                Int.toNat
                                                                                                                                                                                                  (↑(List.length
                                                                                                                                                                                                        x.fst) :
                                                                                                                                                                                                    Int))
                                                                                                                                                                                              (Kd.dft
                                                                                                                                                                                                (Kd.pair
                                                                                                                                                                                                  (Kd.int
                                                                                                                                                                                                    IntKind.i64)
                                                                                                                                                                                                  Kd.str))).fst =
                                                                                                                                                                                          (77 : Int))
                                                                                                                                                                                    else false) ==
                                                                                                                                                                                    true) =
                                                                                                                                                                                  true ∧
                                                                                                                                                                                ((bif y.fst then
                                                                                                                                                                                        decide
                                                                                                                                                                                          ((List.getD
                                                                                                                                                                                                ([] ++
                                                                                                                                                                                                    x.fst ++
                                                                                                                                                                                                  [((77 :
                                                                                                                                                                                                        Int),
                                                                                                                                                                                                      bs
                                                                                                                                                                                                        {
                                                                                                                                                                                                          data :=
                                                                                                                                                                                                            #[] })])
                                                                                                                                                                                                ((0 :
                                                                                                                                                                                                    Nat) +
                                                                                                                                                                                                  Int.toNat
                                                                                                                                                                                                    (↑(List.length
                                                                                                                                                                                                          x.fst) :
                                                                                                                                                                                                      Int))
                                                                                                                                                                                                (Kd.dft
                                                                                                                                                                                                  (Kd.pair
                                                                                                                                                                                                    (Kd.int
                                                                                                                                                                                                      IntKind.i64)
                                                                                                                                                                                                    Kd.str))).fst =
                                                                                                                                                                                            (77 : Int))
                                                                                                                                                                                      else false) ==
                                                                                                                                                                                      true) =
                                                                                                                                                                                    true ∧
                                                                                                                                                                                  (List.length
                                                                                                                                                                                          (List.take
                                                                                                                                                                                            (Int.toNat
                                                                                                                                                                                                (↑(List.length
                                                                                                                                                                                                      x.snd.fst) :
                                                                                                                                                                                                  Int) -
                                                                                                                                                                                              (0 : Nat))
                                                                                                                                                                                            (List.drop
                                                                                                                                                                                              (0 : Nat)
                                                                                                                                                                                              ([] ++
                                                                                                                                                                                                  x.snd.fst ++
                                                                                                                                                                                                [((77 :
                                                                                                                                                                                                      Int),
                                                                                                                                                                                                    bs
                                                                                                                                                                                                      {
                                                                                                                                                                                                        data :=
                                                                                                                                                                                                          #[] })]))) ≤
                                                                                                                                                                                        (1000000000 :
                                                                                                                                                                                          Nat) ∧
                                                                                                                                                                                      List.length
                                                                                                                                                                                          x.snd.fst ≤
                                                                                                                                                                                        (1000000000 :
                                                                                                                                                                                          Nat)) ∧
                                                                                                                                                                                    (∀ (y : Bool × Unit),
                                                                                                                                                                                        Kd.wf Kd.bool
                                                                                                                                                                                              y.fst ∧
                                                                                                                                                                                            True →
                                                                                                                                                                                          y.fst =
                                                                                                                                                                                              decide
                                                                                                                                                                                                (List.take
                                                                                                                                                                                                    (Int.toNat
                                                                                                                                                                                                        (↑(List.length
                                                                                                                                                                                                              x.snd.fst) :
                                                                                                                                                                                                          Int) -
                                                                                                                                                                                                      (0 :
                                                                                                                                                                                                        Nat))
                                                                                                                                                                                                    (List.drop
                                                                                                                                                                                                      (0 :
                                                                                                                                                                                                        Nat)
                                                                                                                                                                                                      ([] ++
                                                                                                                                                                                                          x.snd.fst ++
                                                                                                                                                                                                        [((77 :
                                                                                                                                                                                                              Int),
                                                                                                                                                                                                            bs
                                                                                                                                                                                                              {
                                                                                                                                                                                                                data :=
                                                                                                                                                                                                                  #[] })])) =
                                                                                                                                                                                                  x.snd.fst) →
                                                                                                                                                                                            (y.fst =
                                                                                                                                                                                                  true →
                                                                                                                                                                                                True) ∧
                                                                                                                                                                                              (y.fst =
                                                                                                                                                                                                    true →
                                                                                                                                                                                                  True) ∧
                                                                                                                                                                                                (y.fst =
                                                                                                                                                                                                      true →
                                                                                                                                                                                                    (y.fst ==
                                                                                                                                                                                                          true) =
                                                                                                                                                                                                        true ∧
                                                                                                                                                                                                      True) ∧
                                                                                                                                                                                                  (y.fst =
                                                                                                                                                                                                        true →
                                                                                                                                                                                                      (y.fst ==
                                                                                                                                                                                                            true) =
                                                                                                                                                                                                          true ∧
                                                                                                                                                                                                        True) ∧
                                                                                                                                                                                                    (y.fst =
                                                                                                                                                                                                          true →
                                                                                                                                                                                                        (y.fst ==
                                                                                                                                                                                                              true) =
                                                                                                                                                                                                            true ∧
                                                                                                                                                                                                          (y.fst ==
                                                                                                                                                                                                                true) =
                                                                                                                                                                                                              true ∧
                                                                                                                                                                                                            ((0 :
                                                                                                                                                                                                                    Int) ≤
                                                                                                                                                                                                                  IntKind.wrap
                                                                                                                                                                                                                    IntKind.i64
                                                                                                                                                                                                                    ((↑(List.length
                                                                                                                                                                                                                            x.snd.fst) :
                                                                                                                                                                                                                        Int) +
                                                                                                                                                                                                                      (1 :
                                                                                                                                                                                                                        Int)) ∧
                                                                                                                                                                                                                IntKind.wrap
                                                                                                                                                                                                                    IntKind.i64
                                                                                                                                                                                                                    ((↑(List.length
                                                                                                                                                                                                                            x.snd.fst) :
                                                                                                                                                                                                                        Int) +
                                                                                                                                                                                                                      (1 :
                                                                                                                                                                                                                        Int)) ≤
                                                                                                                                                                                                                  (↑(List.length
                                                                                                                                                                                                                          ([] ++
                                                                                                                                                                                                                              x.snd.fst ++
                                                                                                                                                                                                                            [((77 :
                                                                                                                                                                                                                                  Int),
                                                                                                                                                                                                                                bs
                                                                                                                                                                                                                                  {
                                                                                                                                                                                                                                    data :=
                                                                                                                                                                                                                                      #[] })]) -
                                                                                                                                                                                                                        (0 :
                                                                                                                                                                                                                          Nat)) :
                                                                                                                                                                                                                    Int)) ∧
                                                                                                                                                                                                              True) ∧
                                                                                                                                                                                                      (y.fst =
                                                                                                                                                                                                            true →
                                                                                                                                                                                                          True) ∧
                                                                                                                                                                                                        (y.fst =
                                                                                                                                                                                                              true →
                                                                                                                                                                                                            (y.fst ==
                                                                                                                                                                                                                  true) =
                                                                                                                                                                                                                true ∧
                                                                                                                                                                                                              True) ∧
                                                                                                                                                                                                          (y.fst =
                                                                                                                                                                                                                true →
                                                                                                                                                                                                              (y.fst ==
                                                                                                                                                                                                                    true) =
                                                                                                                                                                                                                  true ∧
                                                                                                                                                                                                                (y.fst ==
                                                                                                                                                                                                                      true) =
                                                                                                                                                                                                                    true ∧
                                                                                                                                                                                                                  ((0 :
                                                                                                                                                                                                                          Int) ≤
                                                                                                                                                                                                                        (↑(List.length
                                                                                                                                                                                                                              x.snd.fst) :
                                                                                                                                                                                                                          Int) ∧
                                                                                                                                                                                                                      (↑(List.length
                                                                                                                                                                                                                              x.snd.fst) :
                                                                                                                                                                                                                          Int) <
                                                                                                                                                                                                                        (↑(Int.toNat
                                                                                                                                                                                                                                (IntKind.wrap
                                                                                                                                                                                                                                  IntKind.i64
                                                                                                                                                                                                                                  ((↑(List.length
                                                                                                                                                                                                                                          x.snd.fst) :
                                                                                                                                                                                                                                      Int) +
                                                                                                                                                                                                                                    (1 :
                                                                                                                                                                                                                                      Int))) -
                                                                                                                                                                                                                              (0 :
                                                                                                                                                                                                                                Nat)) :
                                                                                                                                                                                                                          Int)) ∧
                                                                                                                                                                                                                    True) ∧
                                                                                                                                                                                                            (y.fst =
                                                                                                                                                                                                                  true →
                                                                                                                                                                                                                (y.fst ==
                                                                                                                                                                                                                      true) =
                                                                                                                                                                                                                    true ∧
                                                                                                                                                                                                                  True) ∧
                                                                                                                                                                                                              (y.fst =
                                                                                                                                                                                                                    true →
                                                                                                                                                                                                                  (y.fst ==
                                                                                                                                                                                                                        true) =
                                                                                                                                                                                                                      true ∧
                                                                                                                                                                                                                    True) ∧
                                                                                                                                                                                                                (y.fst =
                                                                                                                                                                                                                      true →
                                                                                                                                                                                                                    (y.fst ==
                                                                                                                                                                                                                          true) =
                                                                                                                                                                                                                        true ∧
                                                                                                                                                                                                                      True) ∧
                                                                                                                                                                                                                  (y.fst =
                                                                                                                                                                                                                        true →
                                                                                                                                                                                                                      (y.fst ==
                                                                                                                                                                                                                          true) =
                                                                                                                                                                                                                        true) ∧
                                                                                                                                                                                                                    ((bif
                                                                                                                                                                                                                              y.fst then
                                                                                                                                                                                                                            decide
                                                                                                                                                                                                                              ((List.getD
                                                                                                                                                                                                                                    ([] ++
                                                                                                                                                                                                                                        x.snd.fst ++
                                                                                                                                                                                                                                      [((77 :
                                                                                                                                                                                                                                            Int),
                                                                                                                                                                                                                                          bs
                                                                                                                                                                                                                                            {
                                                                                                                                                                                                                                              data :=
                                                                                                                                                                                                                                                #[] })])
                                                                                                                                                                                                                                    ((0 :
                                                                                                                                                                                                                                        Nat) +
                                                                                                                                                                                                                                      Int.toNat
                                                                                                                                                                                                                                        (↑(List.length
                                                                                                                                                                                                                                              x.snd.fst) :
                                                                                                                                                                                                                                          Int))
                                                                                                                                                                                                                                    (Kd.dft
                                                                                                                                                                                                                                      (Kd.pair
                                                                                                                                                                                                                                        (Kd.int
                                                                                                                                                                                                                                          IntKind.i64)
                                                                                                                                                                                                                                        Kd.str))).fst =
                                                                                                                                                                                                                                (77 :
                                                                                                                                                                                                                                  Int))
                                                                                                                                                                                                                          else
                                                                                                                                                                                                                            false) =
                                                                                                                                                                                                                          true →
                                                                                                                                                                                                                        True ∧
                                                                                                                                                                                                                          (∀
                                                                                                                                                                                                                              (y :
                                                                                                                                                                                                                                Bool ×
                                                                                                                                                                                                                                  Unit),
                                                                                                                                                                                                                              Kd.wf
                                                                                                                                                                                                                                    Kd.bool
                                                                                                                                                                                                                                    y.fst ∧
                                                                                                                                                                                                                                  True →
                                                                                                                                                                                                                                y.fst =
                                                                                                                                                                                                                                    true →
                                                                                                                                                                                                                                  y.fst =
                                                                                                                                                                                                                                    true) ∧
                                                                                                                                                                                                                            True) ∧
                                                                                                                                                                                                                      ((bif
                                                                                                                                                                                                                              y.fst then
                                                                                                                                                                                                                            decide
                                                                                                                                                                                                                              ((List.getD
                                                                                                                                                                                                                                    ([] ++
                                                                                                                                                                                                                                        x.snd.fst ++
                                                                                                                                                                                                                                      [((77 :
                                                                                                                                                                                                                                            Int),
                                                                                                                                                                                                                                          bs
                                                                                                                                                                                                                                            {
                                                                                                                                                                                                                                              data :=
                                                                                                                                                                                                                                                #[] })])
                                                                                                                                                                                                                                    ((0 :
                                                                                                                                                                                                                                        Nat) +
                                                                                                                                                                                                                                      Int.toNat
                                                                                                                                                                                                                                        (↑(List.length
                                                                                                                                                                                                                                              x.snd.fst) :
                                                                                                                                                                                                                                          Int))
                                                                                                                                                                                                                                    (Kd.dft
                                                                                                                                                                                                                                      (Kd.pair
                                                                                                                                                                                                                                        (Kd.int
                                                                                                                                                                                                                                          IntKind.i64)
                                                                                                                                                                                                                                        Kd.str))).fst =
                                                                                                                                                                                                                                (77 :
                                                                                                                                                                                                                                  Int))
                                                                                                                                                                                                                          else
                                                                                                                                                                                                                            false) =
                                                                                                                                                                                                                          !true →
                                                                                                                                                                                                                        false =
                                                                                                                                                                                                                          true)) ∧
                                                                                                                                                                                      True) ∧
                                                                                                                                                                            ((bif y.fst then
                                                                                                                                                                                  decide
                                                                                                                                                                                    ((List.getD
                                                                                                                                                                                          ([] ++ x.fst ++
                                                                                                                                                                                            [((77 : Int),
                                                                                                                                                                                                bs
                                                                                                                                                                                                  {
                                                                                                                                                                                                    data :=
                                                                                                                                                                                                      #[] })])
                                                                                                                                                                                          ((0 : Nat) +
                                                                                                                                                                                            Int.toNat
                                                                                                                                                                                              (↑(List.length
                                                                                                                                                                                                    x.fst) :
                                                                                                                                                                                                Int))
                                                                                                                                                                                          (Kd.dft
                                                                                                                                                                                            (Kd.pair
                                                                                                                                                                                              (Kd.int
                                                                                                                                                                                                IntKind.i64)
                                                                                                                                                                                              Kd.str))).fst =
                                                                                                                                                                                      (77 : Int))
                                                                                                                                                                                else false) =
                                                                                                                                                                                !true →
                                                                                                                                                                              false = true)) ∧
                                                                                                                                        True) ∧
                                                                                                                              (decide (y.fst = y_3.fst) = !true → false = true)) ∧
                                                                                                                  True) ∧
                                                                                                        True) ∧
                                                                                              (decide (y.fst = y_2.fst) = !true → false = true)) ∧
                                                                                  True) ∧
                                                                        True) ∧
                                                              (decide (y.fst = y_1.fst) = !true → false = true)) ∧
                                                  True) ∧
                                        True
theorem e3 : t3 = Con.vc c_law12_NameCompares GL (mkEnv ty [(10, i10), (15, i15), (11, conSem c_name_Same), (12, conSem c_r12_Same), (13, conSem c_name_Begins), (14, conSem c_r12_Begins), (16, conSem c_law12_works)] [] [] [0, 1, 4, 5, 6]) {} Tryd.f3.ntmps Tryd.f3.results.toList (bodyOf Tryd.f3) := by kernel_rfl
theorem k3 : t3 := by
  unfold t3
  rintro ⟨a, b, _⟩ hx hp
  have hp : Kd.bulk (Kd.sl AT) a + (Kd.bulk (Kd.sl AT) b + 0) ≤ 1048576 := hp
  have hlen : ∀ l : List AttrT, Kd.bulk (Kd.sl AT) l ≤ 1048576 → l.length ≤ 1048576 ∧ ∀ x ∈ l, x.2.length ≤ 100000000 := fun l hl => by
    obtain ⟨h1, h2⟩ := bulk_attrs l
    exact ⟨by omega, fun x hx => by have := h1 x hx; omega⟩
  obtain ⟨a1, a2⟩ := hlen a (by omega)
  obtain ⟨b1, b2⟩ := hlen b (by omega)
  clear hlen hp hx
  try dsimp +instances only [dft_int, dft_sl, dft_str]
  simp only [true_and, and_true, eq_self_iff_true, implies_true, reduceCtorEq, false_implies, true_implies, decide_eq_true_eq, decide_eq_false_iff_not, beq_self_eq_true, Bool.not_eq_true', ne_eq, Decidable.not_not, List.nil_append, List.length_singleton, List.length_cons, List.length_nil, Nat.zero_add, Nat.add_zero, Nat.mul_one, and_self, beq_iff_eq, Bool.not_true, Bool.not_false, Bool.not_eq_false', Bool.cond_false_right, Bool.and_eq_true, imp_self, Bool.not_eq_true, Bool.cond_true_left, Bool.or_eq_true]
  simp only [all_bool, take_back]
  have g1 : a.length ≤ 1000000000 := by omega
  have g2 : b.length ≤ 1000000000 := by omega
  simp only [g1, g2, true_and, and_true, true_implies, eq_self_iff_true, not_true_eq_false, false_implies, decide_true, implies_true, reduceCtorEq]
  have hA : IntKind.wrap .i64 ((a.length : Int) + 1) = a.length + 1 := wrapK _ (by omega) (by omega)
  have hB : IntKind.wrap .i64 ((b.length : Int) + 1) = b.length + 1 := wrapK _ (by omega) (by omega)
  rw [hA, hB, got_back, got_back]
  simp only [List.length_append, List.length_singleton]
  have A := a2
  have B := b2
  refine ⟨by decide, by omega, by omega, by decide, by omega, by omega, ⟨by omega, by omega⟩, by decide, by omega, by omega, by decide, by omega, by omega, ⟨by omega, by omega⟩, ⟨A, B⟩, ⟨A, B⟩, ⟨A, B⟩, ⟨A, B⟩, ⟨B, A⟩, ⟨B, A⟩, ⟨by omega, by omega⟩, ⟨by omega, by omega⟩, fun _ => ⟨trivial, trivial, ⟨by omega, by omega⟩, ⟨by omega, by omega⟩, fun h => by cases h⟩, fun h => by cases h⟩
theorem h3 : c_law12_NameCompares.ok Tryd.prog GL 3 := con_ok (H := {}) (mkEnv_ok (gl := GL) (l := [(10, i10), (15, i15), (11, conSem c_name_Same), (12, conSem c_r12_Same), (13, conSem c_name_Begins), (14, conSem c_r12_Begins), (16, conSem c_law12_works)]) (q := []) (d := []) _ tyOk (by kernel_rfl) ⟨i10_ok, i15_ok, h11.call, h12.call, h13.call, h14.call, h16.call, trivial⟩ trivial trivial) (by kernel_rfl) (by kernel_rfl) (Eq.mp e3 k3)

end Go.Proofs.YtcaekpbmmbfeiaaDoor
