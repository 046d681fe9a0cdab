/- Walks. -/
import Derived.Test.YtcaekpbmmbfeiaaDoorZName2A
set_option linter.unusedVariables false
set_option linter.unusedSimpArgs false
namespace Go.Proofs.YtcaekpbmmbfeiaaDoor
open Go Go.Vc Go.Pl Go.Proofs
set_option linter.unusedVariables false
set_option linter.unusedSimpArgs false
theorem adft_eq2 : Kd.dft (Kd.pair (Kd.int IntKind.i64) Kd.str) = adft := rfl
theorem eq_getD : ∀ {a b : List AttrT}, a.length = b.length → (∀ i, i < a.length → a.getD i adft = b.getD i adft) → a = b := fun {a b} h1 h2 => by
  apply List.ext_getElem h1
  intro i hi hj
  have := h2 i hi
  rwa [List.getD_eq_getElem?_getD, List.getD_eq_getElem?_getD, List.getElem?_eq_getElem hi, List.getElem?_eq_getElem hj] at this
theorem dec_not {p : Prop} {d : Decidable (¬ p)} (h : @decide (¬ p) d = false) : p := Classical.not_not.1 (of_decide_eq_false h)
def t34 : Prop :=
  ∀ (x : List (Int × List Int) × List (Int × List Int) × Unit),
    Kd.wf (Kd.sl (Kd.pair (Kd.int IntKind.i64) Kd.str)) x.fst ∧ Kd.wf (Kd.sl (Kd.pair (Kd.int IntKind.i64) Kd.str)) x.snd.fst ∧ True →
      List.length x.fst ≤ (1000000000 : Nat) ∧ List.length x.snd.fst ≤ (1000000000 : Nat) →
        (decide ((↑(List.length x.fst) : Int) ≠ (↑(List.length x.snd.fst) : Int)) = true → false = decide (x.fst = x.snd.fst)) ∧
          (decide ((↑(List.length x.fst) : Int) ≠ (↑(List.length x.snd.fst) : Int)) = false →
            ∃ (I : Int × Bool × Unit → Unit → Prop),
              ∃ (μ : Int × Bool × Unit → Unit → Nat),
                (Value.bool false = Value.bool false ∧ x.fst = x.fst ∧ x.snd.fst = x.snd.fst ∧ I ((0 : Int), false, ()) ()) ∧
                  ∀ (y : Int × Bool × Unit) (z : Unit),
                    Kd.wf (Kd.int IntKind.i64) y.fst ∧ Kd.wf Kd.bool y.snd.fst ∧ True →
                      True →
                        I y z →
                          (decide (y.fst < (↑(List.length x.fst) : Int)) = true →
                              ((0 : Int) ≤ y.fst ∧ y.fst < (↑(List.length x.fst) : Int)) ∧
                                ((0 : Int) ≤ y.fst ∧ y.fst < (↑(List.length x.snd.fst) : Int)) ∧
                                  (decide
                                          ((List.getD x.fst (Int.toNat y.fst) (Kd.dft (Kd.pair (Kd.int IntKind.i64) Kd.str))).fst ≠
                                            (List.getD x.snd.fst (Int.toNat y.fst) (Kd.dft (Kd.pair (Kd.int IntKind.i64) Kd.str))).fst) =
                                        false →
                                      True) ∧
                                    (decide
                                            ((List.getD x.fst (Int.toNat y.fst) (Kd.dft (Kd.pair (Kd.int IntKind.i64) Kd.str))).fst ≠
                                              (List.getD x.snd.fst (Int.toNat y.fst) (Kd.dft (Kd.pair (Kd.int IntKind.i64) Kd.str))).fst) =
                                          false →
                                        True) ∧
                                      (decide
                                              ((List.getD x.fst (Int.toNat y.fst) (Kd.dft (Kd.pair (Kd.int IntKind.i64) Kd.str))).fst ≠
                                                (List.getD x.snd.fst (Int.toNat y.fst) (Kd.dft (Kd.pair (Kd.int IntKind.i64) Kd.str))).fst) =
                                            false →
                                          (decide
                                                  ((List.getD x.fst (Int.toNat y.fst) (Kd.dft (Kd.pair (Kd.int IntKind.i64) Kd.str))).fst ≠
                                                    (List.getD x.snd.fst (Int.toNat y.fst) (Kd.dft (Kd.pair (Kd.int IntKind.i64) Kd.str))).fst) ==
                                                false) =
                                              true ∧
                                            (decide
                                                    ((List.getD x.fst (Int.toNat y.fst) (Kd.dft (Kd.pair (Kd.int IntKind.i64) Kd.str))).fst ≠
                                                      (List.getD x.snd.fst (Int.toNat y.fst) (Kd.dft (Kd.pair (Kd.int IntKind.i64) Kd.str))).fst) ==
                                                  false) =
                                                true ∧
                                              ((0 : Int) ≤ y.fst ∧ y.fst < (↑(List.length x.fst) : Int)) ∧ True) ∧
                                        (decide
                                                ((List.getD x.fst (Int.toNat y.fst) (Kd.dft (Kd.pair (Kd.int IntKind.i64) Kd.str))).fst ≠
                                                  (List.getD x.snd.fst (Int.toNat y.fst) (Kd.dft (Kd.pair (Kd.int IntKind.i64) Kd.str))).fst) =
                                              false →
                                            (decide
                                                    ((List.getD x.fst (Int.toNat y.fst) (Kd.dft (Kd.pair (Kd.int IntKind.i64) Kd.str))).fst ≠
                                                      (List.getD x.snd.fst (Int.toNat y.fst) (Kd.dft (Kd.pair (Kd.int IntKind.i64) Kd.str))).fst) ==
                                                  false) =
                                                true ∧
                                              True) ∧
                                          (decide
                                                  ((List.getD x.fst (Int.toNat y.fst) (Kd.dft (Kd.pair (Kd.int IntKind.i64) Kd.str))).fst ≠
                                                    (List.getD x.snd.fst (Int.toNat y.fst) (Kd.dft (Kd.pair (Kd.int IntKind.i64) Kd.str))).fst) =
                                                false →
                                              (decide
                                                      ((List.getD x.fst (Int.toNat y.fst) (Kd.dft (Kd.pair (Kd.int IntKind.i64) Kd.str))).fst ≠
                                                        (List.getD x.snd.fst (Int.toNat y.fst) (Kd.dft (Kd.pair (Kd.int IntKind.i64) Kd.str))).fst) ==
                                                    false) =
                                                  true ∧
                                                True) ∧
                                            (decide
                                                    ((List.getD x.fst (Int.toNat y.fst) (Kd.dft (Kd.pair (Kd.int IntKind.i64) Kd.str))).fst ≠
                                                      (List.getD x.snd.fst (Int.toNat y.fst) (Kd.dft (Kd.pair (Kd.int IntKind.i64) Kd.str))).fst) =
                                                  false →
                                                True) ∧
                                              (decide
                                                      ((List.getD x.fst (Int.toNat y.fst) (Kd.dft (Kd.pair (Kd.int IntKind.i64) Kd.str))).fst ≠
                                                        (List.getD x.snd.fst (Int.toNat y.fst) (Kd.dft (Kd.pair (Kd.int IntKind.i64) Kd.str))).fst) =
                                                    false →
                                                  True) ∧
                                                (decide
                                                        ((List.getD x.fst (Int.toNat y.fst) (Kd.dft (Kd.pair (Kd.int IntKind.i64) Kd.str))).fst ≠
                                                          (List.getD x.snd.fst (Int.toNat y.fst) (Kd.dft (Kd.pair (Kd.int IntKind.i64) Kd.str))).fst) =
                                                      false →
                                                    (decide
                                                            ((List.getD x.fst (Int.toNat y.fst) (Kd.dft (Kd.pair (Kd.int IntKind.i64) Kd.str))).fst ≠
                                                              (List.getD x.snd.fst (Int.toNat y.fst) (Kd.dft (Kd.pair (Kd.int IntKind.i64) Kd.str))).fst) ==
                                                          false) =
                                                        true ∧
                                                      (decide
                                                              ((List.getD x.fst (Int.toNat y.fst) (Kd.dft (Kd.pair (Kd.int IntKind.i64) Kd.str))).fst ≠
                                                                (List.getD x.snd.fst (Int.toNat y.fst) (Kd.dft (Kd.pair (Kd.int IntKind.i64) Kd.str))).fst) ==
                                                            false) =
                                                          true ∧
                                                        ((0 : Int) ≤ y.fst ∧ y.fst < (↑(List.length x.snd.fst) : Int)) ∧ True) ∧
                                                  (decide
                                                          ((List.getD x.fst (Int.toNat y.fst) (Kd.dft (Kd.pair (Kd.int IntKind.i64) Kd.str))).fst ≠
                                                            (List.getD x.snd.fst (Int.toNat y.fst) (Kd.dft (Kd.pair (Kd.int IntKind.i64) Kd.str))).fst) =
                                                        false →
                                                      (decide
                                                              ((List.getD x.fst (Int.toNat y.fst) (Kd.dft (Kd.pair (Kd.int IntKind.i64) Kd.str))).fst ≠
                                                                (List.getD x.snd.fst (Int.toNat y.fst) (Kd.dft (Kd.pair (Kd.int IntKind.i64) Kd.str))).fst) ==
                                                            false) =
                                                          true ∧
                                                        True) ∧
                                                    (decide
                                                            ((List.getD x.fst (Int.toNat y.fst) (Kd.dft (Kd.pair (Kd.int IntKind.i64) Kd.str))).fst ≠
                                                              (List.getD x.snd.fst (Int.toNat y.fst) (Kd.dft (Kd.pair (Kd.int IntKind.i64) Kd.str))).fst) =
                                                          false →
                                                        (decide
                                                                ((List.getD x.fst (Int.toNat y.fst) (Kd.dft (Kd.pair (Kd.int IntKind.i64) Kd.str))).fst ≠
                                                                  (List.getD x.snd.fst (Int.toNat y.fst) (Kd.dft (Kd.pair (Kd.int IntKind.i64) Kd.str))).fst) ==
                                                              false) =
                                                            true ∧
                                                          True) ∧
                                                      (decide
                                                              ((List.getD x.fst (Int.toNat y.fst) (Kd.dft (Kd.pair (Kd.int IntKind.i64) Kd.str))).fst ≠
                                                                (List.getD x.snd.fst (Int.toNat y.fst) (Kd.dft (Kd.pair (Kd.int IntKind.i64) Kd.str))).fst) =
                                                            false →
                                                          (decide
                                                                  ((List.getD x.fst (Int.toNat y.fst) (Kd.dft (Kd.pair (Kd.int IntKind.i64) Kd.str))).fst ≠
                                                                    (List.getD x.snd.fst (Int.toNat y.fst) (Kd.dft (Kd.pair (Kd.int IntKind.i64) Kd.str))).fst) ==
                                                                false) =
                                                              true ∧
                                                            (decide
                                                                    ((List.getD x.fst (Int.toNat y.fst) (Kd.dft (Kd.pair (Kd.int IntKind.i64) Kd.str))).fst ≠
                                                                      (List.getD x.snd.fst (Int.toNat y.fst) (Kd.dft (Kd.pair (Kd.int IntKind.i64) Kd.str))).fst) ==
                                                                  false) =
                                                                true ∧
                                                              True) ∧
                                                        (decide
                                                                ((List.getD x.fst (Int.toNat y.fst) (Kd.dft (Kd.pair (Kd.int IntKind.i64) Kd.str))).fst ≠
                                                                  (List.getD x.snd.fst (Int.toNat y.fst) (Kd.dft (Kd.pair (Kd.int IntKind.i64) Kd.str))).fst) =
                                                              false →
                                                            (decide
                                                                  ((List.getD x.fst (Int.toNat y.fst) (Kd.dft (Kd.pair (Kd.int IntKind.i64) Kd.str))).fst ≠
                                                                    (List.getD x.snd.fst (Int.toNat y.fst) (Kd.dft (Kd.pair (Kd.int IntKind.i64) Kd.str))).fst) ==
                                                                false) =
                                                              true) ∧
                                                          ((bif
                                                                    decide
                                                                      ((List.getD x.fst (Int.toNat y.fst) (Kd.dft (Kd.pair (Kd.int IntKind.i64) Kd.str))).fst ≠
                                                                        (List.getD x.snd.fst (Int.toNat y.fst) (Kd.dft (Kd.pair (Kd.int IntKind.i64) Kd.str))).fst) then
                                                                  true
                                                                else
                                                                  decide
                                                                    ((List.getD x.fst (Int.toNat y.fst) (Kd.dft (Kd.pair (Kd.int IntKind.i64) Kd.str))).snd ≠
                                                                      (List.getD x.snd.fst (Int.toNat y.fst) (Kd.dft (Kd.pair (Kd.int IntKind.i64) Kd.str))).snd)) =
                                                                true →
                                                              false = decide (x.fst = x.snd.fst)) ∧
                                                            ((bif
                                                                    decide
                                                                      ((List.getD x.fst (Int.toNat y.fst) (Kd.dft (Kd.pair (Kd.int IntKind.i64) Kd.str))).fst ≠
                                                                        (List.getD x.snd.fst (Int.toNat y.fst) (Kd.dft (Kd.pair (Kd.int IntKind.i64) Kd.str))).fst) then
                                                                  true
                                                                else
                                                                  decide
                                                                    ((List.getD x.fst (Int.toNat y.fst) (Kd.dft (Kd.pair (Kd.int IntKind.i64) Kd.str))).snd ≠
                                                                      (List.getD x.snd.fst (Int.toNat y.fst) (Kd.dft (Kd.pair (Kd.int IntKind.i64) Kd.str))).snd)) =
                                                                false →
                                                              Value.bool false = Value.bool false ∧
                                                                x.fst = x.fst ∧
                                                                  x.snd.fst = x.snd.fst ∧
                                                                    I (IntKind.wrap IntKind.i64 (y.fst + (1 : Int)), y.snd.fst, ()) () ∧
                                                                      μ (IntKind.wrap IntKind.i64 (y.fst + (1 : Int)), y.snd.fst, ()) () < μ y z)) ∧
                            (decide (y.fst < (↑(List.length x.fst) : Int)) = false → true = decide (x.fst = x.snd.fst)))
theorem e34 : t34 = Con.vc c_r12_Alike GL (mkEnv ty [] [] [] [0, 1, 4, 5, 10, 14, 40]) {} Tryd.f34.ntmps Tryd.f34.results.toList (bodyOf Tryd.f34) := by kernel_rfl
theorem k34 : t34 := by
  unfold t34
  rintro ⟨l, m, _⟩ hx hp
  obtain ⟨h1, h2⟩ := hp
  simp only at h1 h2
  try dsimp +instances only [dft_int, dft_sl, dft_str]
  simp only [true_and, and_true, eq_self_iff_true, implies_true, reduceCtorEq, false_implies, true_implies, decide_eq_true_eq, decide_eq_false_iff_not, beq_self_eq_true, Bool.not_eq_true', ne_eq, Decidable.not_not, List.nil_append, List.length_singleton, List.length_cons, List.length_nil, Nat.zero_add, Nat.add_zero, Nat.mul_one, and_self, beq_iff_eq, Bool.not_true, Bool.not_false, Bool.not_eq_false', Bool.cond_false_right, Bool.and_eq_true, imp_self, Bool.not_eq_true, Bool.cond_true_left, Bool.or_eq_true]
  simp only [adft_eq2]
  refine ⟨fun h => (decide_eq_false (fun e => h (by rw [e]))).symm, fun h => ?_⟩
  have hl : l.length = m.length := by omega
  refine ⟨fun y _ => 0 ≤ y.1 ∧ y.1 ≤ l.length ∧ ∀ j, j < y.1.toNat → l.getD j adft = m.getD j adft, fun y _ => ((l.length : Int) - y.1).toNat, ⟨Int.le_refl 0, by simp only; omega, fun j hj => by simp at hj⟩, ?_⟩
  rintro ⟨i, b, _⟩ _ _ ⟨i0, i1, i2⟩
  simp only at i0 i1 i2 ⊢
  refine ⟨fun hlt => ?_, fun hge => (decide_eq_true (eq_getD hl fun j hj => i2 j (by omega))).symm⟩
  have hw1 : IntKind.wrap .i64 (i + 1) = i + 1 := wrapK _ (by omega) (by omega)
  rw [hw1]
  refine ⟨⟨i0, hlt⟩, ⟨i0, by omega⟩, fun e => ⟨e, e, i0, hlt⟩, fun e => ⟨e, e, i0, by omega⟩, fun hne => ?_, fun he => ⟨⟨by omega, by omega, fun j hj => ?_⟩, by omega⟩⟩
  · refine (decide_eq_false fun e => ?_).symm
    rw [e] at hne
    simp at hne
  · by_cases hji : j < i.toNat
    · exact i2 j hji
    · rw [show j = i.toNat by omega]
      simp only [Bool.or_eq_false_iff, decide_eq_false_iff_not] at he
      exact Prod.ext (dec_not he.1) (dec_not he.2)
theorem h34 : c_r12_Alike.ok Tryd.prog GL 34 := con_ok (H := {}) (mkEnv_ok (gl := GL) (l := []) (q := []) (d := []) _ tyOk (by kernel_rfl) trivial trivial trivial) (by kernel_rfl) (by kernel_rfl) (Eq.mp e34 k34)

def t14 : Prop :=
  ∀ (x : List (Int × List Int) × List (Int × List Int) × Unit),
    Kd.wf (Kd.sl (Kd.pair (Kd.int IntKind.i64) Kd.str)) x.fst ∧ Kd.wf (Kd.sl (Kd.pair (Kd.int IntKind.i64) Kd.str)) x.snd.fst ∧ True →
      (List.length x.snd.fst ≤ (1000000000 : Nat) ∧
          (∀ (a : Int × List Int), a ∈ x.fst → List.length a.snd ≤ (100000000 : Nat)) ∧ ∀ (a : Int × List Int), a ∈ x.snd.fst → List.length a.snd ≤ (100000000 : Nat)) →
        ∃ (I : Int × Bool × Unit → Unit → Prop),
          ∃ (μ : Int × Bool × Unit → Unit → Nat),
            (x.fst = x.fst ∧ x.snd.fst = x.snd.fst ∧ I ((0 : Int), false, ()) ()) ∧
              ∀ (y : Int × Bool × Unit) (z : Unit),
                Kd.wf (Kd.int IntKind.i64) y.fst ∧ Kd.wf Kd.bool y.snd.fst ∧ True →
                  True →
                    I y z →
                      (decide (y.fst < (↑(List.length x.snd.fst) : Int)) = true →
                          (((decide ((↑(List.length x.fst) : Int) ≤ y.fst) = false →
                                  (decide ((↑(List.length x.fst) : Int) ≤ y.fst) == false) = true ∧
                                    (decide ((↑(List.length x.fst) : Int) ≤ y.fst) == false) = true ∧ ((0 : Int) ≤ y.fst ∧ y.fst < (↑(List.length x.fst) : Int)) ∧ True) ∧
                                (decide ((↑(List.length x.fst) : Int) ≤ y.fst) = false → (decide ((↑(List.length x.fst) : Int) ≤ y.fst) == false) = true ∧ True) ∧
                                  (decide ((↑(List.length x.fst) : Int) ≤ y.fst) = false →
                                      (decide ((↑(List.length x.fst) : Int) ≤ y.fst) == false) = true ∧
                                        (decide ((↑(List.length x.fst) : Int) ≤ y.fst) == false) = true ∧ ((0 : Int) ≤ y.fst ∧ y.fst < (↑(List.length x.snd.fst) : Int)) ∧ True) ∧
                                    (decide ((↑(List.length x.fst) : Int) ≤ y.fst) = false → (decide ((↑(List.length x.fst) : Int) ≤ y.fst) == false) = true ∧ True) ∧
                                      ((decide ((↑(List.length x.fst) : Int) ≤ y.fst) = false → (decide ((↑(List.length x.fst) : Int) ≤ y.fst) == false) = true ∧ True) ∧
                                          ((decide ((↑(List.length x.fst) : Int) ≤ y.fst) = false → (decide ((↑(List.length x.fst) : Int) ≤ y.fst) == false) = true ∧ True) ∧
                                              ((decide ((↑(List.length x.fst) : Int) ≤ y.fst) = false →
                                                    (decide ((↑(List.length x.fst) : Int) ≤ y.fst) == false) = true ∧ (decide ((↑(List.length x.fst) : Int) ≤ y.fst) == false) = true ∧ True) ∧
                                                  ((decide ((↑(List.length x.fst) : Int) ≤ y.fst) = false → (decide ((↑(List.length x.fst) : Int) ≤ y.fst) == false) = true) ∧
                                                      ((bif decide ((↑(List.length x.fst) : Int) ≤ y.fst) then true
                                                            else
                                                              decide
                                                                ((List.getD x.fst (Int.toNat y.fst) (Kd.dft (Kd.pair (Kd.int IntKind.i64) Kd.str))).fst ≠
                                                                  (List.getD x.snd.fst (Int.toNat y.fst) (Kd.dft (Kd.pair (Kd.int IntKind.i64) Kd.str))).fst)) =
                                                            false →
                                                          ((bif decide ((↑(List.length x.fst) : Int) ≤ y.fst) then true
                                                                else
                                                                  decide
                                                                    ((List.getD x.fst (Int.toNat y.fst) (Kd.dft (Kd.pair (Kd.int IntKind.i64) Kd.str))).fst ≠
                                                                      (List.getD x.snd.fst (Int.toNat y.fst) (Kd.dft (Kd.pair (Kd.int IntKind.i64) Kd.str))).fst)) ==
                                                                false) =
                                                              true ∧
                                                            ((bif decide ((↑(List.length x.fst) : Int) ≤ y.fst) then true
                                                                  else
                                                                    decide
                                                                      ((List.getD x.fst (Int.toNat y.fst) (Kd.dft (Kd.pair (Kd.int IntKind.i64) Kd.str))).fst ≠
                                                                        (List.getD x.snd.fst (Int.toNat y.fst) (Kd.dft (Kd.pair (Kd.int IntKind.i64) Kd.str))).fst)) ==
                                                                  false) =
                                                                true ∧
                                                              ((0 : Int) ≤ y.fst ∧ y.fst < (↑(List.length x.fst) : Int)) ∧ True) ∧
                                                        ((bif decide ((↑(List.length x.fst) : Int) ≤ y.fst) then true
                                                              else
                                                                decide
                                                                  ((List.getD x.fst (Int.toNat y.fst) (Kd.dft (Kd.pair (Kd.int IntKind.i64) Kd.str))).fst ≠
                                                                    (List.getD x.snd.fst (Int.toNat y.fst) (Kd.dft (Kd.pair (Kd.int IntKind.i64) Kd.str))).fst)) =
                                                              false →
                                                            ((bif decide ((↑(List.length x.fst) : Int) ≤ y.fst) then true
                                                                  else
                                                                    decide
                                                                      ((List.getD x.fst (Int.toNat y.fst) (Kd.dft (Kd.pair (Kd.int IntKind.i64) Kd.str))).fst ≠
                                                                        (List.getD x.snd.fst (Int.toNat y.fst) (Kd.dft (Kd.pair (Kd.int IntKind.i64) Kd.str))).fst)) ==
                                                                  false) =
                                                                true ∧
                                                              True) ∧
                                                          ((bif decide ((↑(List.length x.fst) : Int) ≤ y.fst) then true
                                                                else
                                                                  decide
                                                                    ((List.getD x.fst (Int.toNat y.fst) (Kd.dft (Kd.pair (Kd.int IntKind.i64) Kd.str))).fst ≠
                                                                      (List.getD x.snd.fst (Int.toNat y.fst) (Kd.dft (Kd.pair (Kd.int IntKind.i64) Kd.str))).fst)) =
                                                                false →
                                                              ((bif decide ((↑(List.length x.fst) : Int) ≤ y.fst) then true
                                                                    else
                                                                      decide
                                                                        ((List.getD x.fst (Int.toNat y.fst) (Kd.dft (Kd.pair (Kd.int IntKind.i64) Kd.str))).fst ≠
                                                                          (List.getD x.snd.fst (Int.toNat y.fst) (Kd.dft (Kd.pair (Kd.int IntKind.i64) Kd.str))).fst)) ==
                                                                    false) =
                                                                  true ∧
                                                                ((bif decide ((↑(List.length x.fst) : Int) ≤ y.fst) then true
                                                                      else
                                                                        decide
                                                                          ((List.getD x.fst (Int.toNat y.fst) (Kd.dft (Kd.pair (Kd.int IntKind.i64) Kd.str))).fst ≠
                                                                            (List.getD x.snd.fst (Int.toNat y.fst) (Kd.dft (Kd.pair (Kd.int IntKind.i64) Kd.str))).fst)) ==
                                                                      false) =
                                                                    true ∧
                                                                  ((0 : Int) ≤ y.fst ∧ y.fst < (↑(List.length x.snd.fst) : Int)) ∧ True) ∧
                                                            ((bif decide ((↑(List.length x.fst) : Int) ≤ y.fst) then true
                                                                  else
                                                                    decide
                                                                      ((List.getD x.fst (Int.toNat y.fst) (Kd.dft (Kd.pair (Kd.int IntKind.i64) Kd.str))).fst ≠
                                                                        (List.getD x.snd.fst (Int.toNat y.fst) (Kd.dft (Kd.pair (Kd.int IntKind.i64) Kd.str))).fst)) =
                                                                  false →
                                                                ((bif decide ((↑(List.length x.fst) : Int) ≤ y.fst) then true
                                                                      else
                                                                        decide
                                                                          ((List.getD x.fst (Int.toNat y.fst) (Kd.dft (Kd.pair (Kd.int IntKind.i64) Kd.str))).fst ≠
                                                                            (List.getD x.snd.fst (Int.toNat y.fst) (Kd.dft (Kd.pair (Kd.int IntKind.i64) Kd.str))).fst)) ==
                                                                      false) =
                                                                    true ∧
                                                                  True) ∧
                                                              (((bif decide ((↑(List.length x.fst) : Int) ≤ y.fst) then true
                                                                      else
                                                                        decide
                                                                          ((List.getD x.fst (Int.toNat y.fst) (Kd.dft (Kd.pair (Kd.int IntKind.i64) Kd.str))).fst ≠
                                                                            (List.getD x.snd.fst (Int.toNat y.fst) (Kd.dft (Kd.pair (Kd.int IntKind.i64) Kd.str))).fst)) =
                                                                      false →
                                                                    ((bif decide ((↑(List.length x.fst) : Int) ≤ y.fst) then true
                                                                          else
                                                                            decide
                                                                              ((List.getD x.fst (Int.toNat y.fst) (Kd.dft (Kd.pair (Kd.int IntKind.i64) Kd.str))).fst ≠
                                                                                (List.getD x.snd.fst (Int.toNat y.fst) (Kd.dft (Kd.pair (Kd.int IntKind.i64) Kd.str))).fst)) ==
                                                                          false) =
                                                                        true ∧
                                                                      True) ∧
                                                                  (((bif decide ((↑(List.length x.fst) : Int) ≤ y.fst) then true
                                                                          else
                                                                            decide
                                                                              ((List.getD x.fst (Int.toNat y.fst) (Kd.dft (Kd.pair (Kd.int IntKind.i64) Kd.str))).fst ≠
                                                                                (List.getD x.snd.fst (Int.toNat y.fst) (Kd.dft (Kd.pair (Kd.int IntKind.i64) Kd.str))).fst)) =
                                                                          false →
                                                                        ((bif decide ((↑(List.length x.fst) : Int) ≤ y.fst) then true
                                                                              else
                                                                                decide
                                                                                  ((List.getD x.fst (Int.toNat y.fst) (Kd.dft (Kd.pair (Kd.int IntKind.i64) Kd.str))).fst ≠
                                                                                    (List.getD x.snd.fst (Int.toNat y.fst) (Kd.dft (Kd.pair (Kd.int IntKind.i64) Kd.str))).fst)) ==
                                                                              false) =
                                                                            true ∧
                                                                          List.length (List.getD x.fst (Int.toNat y.fst) (Kd.dft (Kd.pair (Kd.int IntKind.i64) Kd.str))).snd ≤ (100000000 : Nat) ∧
                                                                            (∀ (y_1 : List Int × Unit),
                                                                                Kd.wf Kd.str y_1.fst ∧ True →
                                                                                  y_1.fst = foldD (List.getD x.fst (Int.toNat y.fst) (Kd.dft (Kd.pair (Kd.int IntKind.i64) Kd.str))).snd →
                                                                                    (((bif decide ((↑(List.length x.fst) : Int) ≤ y.fst) then true
                                                                                            else
                                                                                              decide
                                                                                                ((List.getD x.fst (Int.toNat y.fst) (Kd.dft (Kd.pair (Kd.int IntKind.i64) Kd.str))).fst ≠
                                                                                                  (List.getD x.snd.fst (Int.toNat y.fst) (Kd.dft (Kd.pair (Kd.int IntKind.i64) Kd.str))).fst)) ==
                                                                                            false) =
                                                                                          true ∧
                                                                                        (List.length (List.getD x.snd.fst (Int.toNat y.fst) (Kd.dft (Kd.pair (Kd.int IntKind.i64) Kd.str))).snd ≤
                                                                                              (100000000 : Nat) ∧
                                                                                            (∀ (y_2 : List Int × Unit),
                                                                                                Kd.wf Kd.str y_2.fst ∧ True →
                                                                                                  y_2.fst =
                                                                                                      foldD (List.getD x.snd.fst (Int.toNat y.fst) (Kd.dft (Kd.pair (Kd.int IntKind.i64) Kd.str))).snd →
                                                                                                    (((decide (y_1.fst ≠ y_2.fst) = true → false = beginsD x.fst x.snd.fst) ∧
                                                                                                          (decide (y_1.fst ≠ y_2.fst) = false →
                                                                                                            x.fst = x.fst ∧
                                                                                                              x.snd.fst = x.snd.fst ∧
                                                                                                                I (IntKind.wrap IntKind.i64 (y.fst + (1 : Int)), y.snd.fst, ()) () ∧
                                                                                                                  μ (IntKind.wrap IntKind.i64 (y.fst + (1 : Int)), y.snd.fst, ()) () < μ y z)) ∧
                                                                                                        True) ∧
                                                                                                      True) ∧
                                                                                              True) ∧
                                                                                          True) ∧
                                                                                      True) ∧
                                                                              True) ∧
                                                                      ((bif decide ((↑(List.length x.fst) : Int) ≤ y.fst) then true
                                                                          else
                                                                            decide
                                                                              ((List.getD x.fst (Int.toNat y.fst) (Kd.dft (Kd.pair (Kd.int IntKind.i64) Kd.str))).fst ≠
                                                                                (List.getD x.snd.fst (Int.toNat y.fst) (Kd.dft (Kd.pair (Kd.int IntKind.i64) Kd.str))).fst)) =
                                                                          !false →
                                                                        (((false = beginsD x.fst x.snd.fst ∧ True) ∧ True) ∧ True) ∧ True)) ∧
                                                                    (((bif decide ((↑(List.length x.fst) : Int) ≤ y.fst) then true
                                                                            else
                                                                              decide
                                                                                ((List.getD x.fst (Int.toNat y.fst) (Kd.dft (Kd.pair (Kd.int IntKind.i64) Kd.str))).fst ≠
                                                                                  (List.getD x.snd.fst (Int.toNat y.fst) (Kd.dft (Kd.pair (Kd.int IntKind.i64) Kd.str))).fst)) =
                                                                            false →
                                                                          ((bif decide ((↑(List.length x.fst) : Int) ≤ y.fst) then true
                                                                                else
                                                                                  decide
                                                                                    ((List.getD x.fst (Int.toNat y.fst) (Kd.dft (Kd.pair (Kd.int IntKind.i64) Kd.str))).fst ≠
                                                                                      (List.getD x.snd.fst (Int.toNat y.fst) (Kd.dft (Kd.pair (Kd.int IntKind.i64) Kd.str))).fst)) ==
                                                                                false) =
                                                                              true ∧
                                                                            True) ∧
                                                                        (((bif decide ((↑(List.length x.fst) : Int) ≤ y.fst) then true
                                                                                else
                                                                                  decide
                                                                                    ((List.getD x.fst (Int.toNat y.fst) (Kd.dft (Kd.pair (Kd.int IntKind.i64) Kd.str))).fst ≠
                                                                                      (List.getD x.snd.fst (Int.toNat y.fst) (Kd.dft (Kd.pair (Kd.int IntKind.i64) Kd.str))).fst)) =
                                                                                false →
                                                                              ((bif decide ((↑(List.length x.fst) : Int) ≤ y.fst) then true
                                                                                    else
                                                                                      decide
                                                                                        ((List.getD x.fst (Int.toNat y.fst) (Kd.dft (Kd.pair (Kd.int IntKind.i64) Kd.str))).fst ≠
                                                                                          (List.getD x.snd.fst (Int.toNat y.fst) (Kd.dft (Kd.pair (Kd.int IntKind.i64) Kd.str))).fst)) ==
                                                                                    false) =
                                                                                  true ∧
                                                                                List.length (List.getD x.fst (Int.toNat y.fst) (Kd.dft (Kd.pair (Kd.int IntKind.i64) Kd.str))).snd ≤ (100000000 : Nat) ∧
                                                                                  (∀ (y_1 : List Int × Unit),
                                                                                      Kd.wf Kd.str y_1.fst ∧ True →
                                                                                        y_1.fst = foldD (List.getD x.fst (Int.toNat y.fst) (Kd.dft (Kd.pair (Kd.int IntKind.i64) Kd.str))).snd →
                                                                                          (((bif decide ((↑(List.length x.fst) : Int) ≤ y.fst) then true
                                                                                                  else
                                                                                                    decide
                                                                                                      ((List.getD x.fst (Int.toNat y.fst) (Kd.dft (Kd.pair (Kd.int IntKind.i64) Kd.str))).fst ≠
                                                                                                        (List.getD x.snd.fst (Int.toNat y.fst) (Kd.dft (Kd.pair (Kd.int IntKind.i64) Kd.str))).fst)) ==
                                                                                                  false) =
                                                                                                true ∧
                                                                                              List.length (List.getD x.snd.fst (Int.toNat y.fst) (Kd.dft (Kd.pair (Kd.int IntKind.i64) Kd.str))).snd ≤
                                                                                                  (100000000 : Nat) ∧
                                                                                                (∀ (y_2 : List Int × Unit),
                                                                                                    Kd.wf Kd.str y_2.fst ∧ True →
                                                                                                      y_2.fst =
                                                                                                          foldD
                                                                                                            (List.getD x.snd.fst (Int.toNat y.fst) (Kd.dft (Kd.pair (Kd.int IntKind.i64) Kd.str))).snd →
                                                                                                        (((decide (y_1.fst ≠ y_2.fst) = true → false = beginsD x.fst x.snd.fst) ∧
                                                                                                              (decide (y_1.fst ≠ y_2.fst) = false →
                                                                                                                x.fst = x.fst ∧
                                                                                                                  x.snd.fst = x.snd.fst ∧
                                                                                                                    I (IntKind.wrap IntKind.i64 (y.fst + (1 : Int)), y.snd.fst, ()) () ∧
                                                                                                                      μ (IntKind.wrap IntKind.i64 (y.fst + (1 : Int)), y.snd.fst, ()) () < μ y z)) ∧
                                                                                                            True) ∧
                                                                                                          True) ∧
                                                                                                  True) ∧
                                                                                            True) ∧
                                                                                    True) ∧
                                                                            ((bif decide ((↑(List.length x.fst) : Int) ≤ y.fst) then true
                                                                                else
                                                                                  decide
                                                                                    ((List.getD x.fst (Int.toNat y.fst) (Kd.dft (Kd.pair (Kd.int IntKind.i64) Kd.str))).fst ≠
                                                                                      (List.getD x.snd.fst (Int.toNat y.fst) (Kd.dft (Kd.pair (Kd.int IntKind.i64) Kd.str))).fst)) =
                                                                                !false →
                                                                              ((false = beginsD x.fst x.snd.fst ∧ True) ∧ True) ∧ True)) ∧
                                                                          True) ∧
                                                                      True) ∧
                                                                (((bif decide ((↑(List.length x.fst) : Int) ≤ y.fst) then true
                                                                        else
                                                                          decide
                                                                            ((List.getD x.fst (Int.toNat y.fst) (Kd.dft (Kd.pair (Kd.int IntKind.i64) Kd.str))).fst ≠
                                                                              (List.getD x.snd.fst (Int.toNat y.fst) (Kd.dft (Kd.pair (Kd.int IntKind.i64) Kd.str))).fst)) =
                                                                        false →
                                                                      ((bif decide ((↑(List.length x.fst) : Int) ≤ y.fst) then true
                                                                            else
                                                                              decide
                                                                                ((List.getD x.fst (Int.toNat y.fst) (Kd.dft (Kd.pair (Kd.int IntKind.i64) Kd.str))).fst ≠
                                                                                  (List.getD x.snd.fst (Int.toNat y.fst) (Kd.dft (Kd.pair (Kd.int IntKind.i64) Kd.str))).fst)) ==
                                                                            false) =
                                                                          true ∧
                                                                        True) ∧
                                                                    (((bif decide ((↑(List.length x.fst) : Int) ≤ y.fst) then true
                                                                            else
                                                                              decide
                                                                                ((List.getD x.fst (Int.toNat y.fst) (Kd.dft (Kd.pair (Kd.int IntKind.i64) Kd.str))).fst ≠
                                                                                  (List.getD x.snd.fst (Int.toNat y.fst) (Kd.dft (Kd.pair (Kd.int IntKind.i64) Kd.str))).fst)) =
                                                                            false →
                                                                          ((bif decide ((↑(List.length x.fst) : Int) ≤ y.fst) then true
                                                                                else
                                                                                  decide
                                                                                    ((List.getD x.fst (Int.toNat y.fst) (Kd.dft (Kd.pair (Kd.int IntKind.i64) Kd.str))).fst ≠
                                                                                      (List.getD x.snd.fst (Int.toNat y.fst) (Kd.dft (Kd.pair (Kd.int IntKind.i64) Kd.str))).fst)) ==
                                                                                false) =
                                                                              true ∧
                                                                            True) ∧
                                                                        (((bif decide ((↑(List.length x.fst) : Int) ≤ y.fst) then true
                                                                                else
                                                                                  decide
                                                                                    ((List.getD x.fst (Int.toNat y.fst) (Kd.dft (Kd.pair (Kd.int IntKind.i64) Kd.str))).fst ≠
                                                                                      (List.getD x.snd.fst (Int.toNat y.fst) (Kd.dft (Kd.pair (Kd.int IntKind.i64) Kd.str))).fst)) =
                                                                                false →
                                                                              ((bif decide ((↑(List.length x.fst) : Int) ≤ y.fst) then true
                                                                                    else
                                                                                      decide
                                                                                        ((List.getD x.fst (Int.toNat y.fst) (Kd.dft (Kd.pair (Kd.int IntKind.i64) Kd.str))).fst ≠
                                                                                          (List.getD x.snd.fst (Int.toNat y.fst) (Kd.dft (Kd.pair (Kd.int IntKind.i64) Kd.str))).fst)) ==
                                                                                    false) =
                                                                                  true ∧
                                                                                List.length (List.getD x.fst (Int.toNat y.fst) (Kd.dft (Kd.pair (Kd.int IntKind.i64) Kd.str))).snd ≤ (100000000 : Nat) ∧
                                                                                  (∀ (y_1 : List Int × Unit),
                                                                                      Kd.wf Kd.str y_1.fst ∧ True →
                                                                                        y_1.fst = foldD (List.getD x.fst (Int.toNat y.fst) (Kd.dft (Kd.pair (Kd.int IntKind.i64) Kd.str))).snd →
                                                                                          (((bif decide ((↑(List.length x.fst) : Int) ≤ y.fst) then true
                                                                                                  else
                                                                                                    decide
                                                                                                      ((List.getD x.fst (Int.toNat y.fst) (Kd.dft (Kd.pair (Kd.int IntKind.i64) Kd.str))).fst ≠
                                                                                                        (List.getD x.snd.fst (Int.toNat y.fst) (Kd.dft (Kd.pair (Kd.int IntKind.i64) Kd.str))).fst)) ==
                                                                                                  false) =
                                                                                                true ∧
                                                                                              List.length (List.getD x.snd.fst (Int.toNat y.fst) (Kd.dft (Kd.pair (Kd.int IntKind.i64) Kd.str))).snd ≤
                                                                                                  (100000000 : Nat) ∧
                                                                                                (∀ (y_2 : List Int × Unit),
                                                                                                    Kd.wf Kd.str y_2.fst ∧ True →
                                                                                                      y_2.fst =
                                                                                                          foldD
                                                                                                            (List.getD x.snd.fst (Int.toNat y.fst) (Kd.dft (Kd.pair (Kd.int IntKind.i64) Kd.str))).snd →
                                                                                                        (((decide (y_1.fst ≠ y_2.fst) = true → false = beginsD x.fst x.snd.fst) ∧
                                                                                                              (decide (y_1.fst ≠ y_2.fst) = false →
                                                                                                                x.fst = x.fst ∧
                                                                                                                  x.snd.fst = x.snd.fst ∧
                                                                                                                    I (IntKind.wrap IntKind.i64 (y.fst + (1 : Int)), y.snd.fst, ()) () ∧
                                                                                                                      μ (IntKind.wrap IntKind.i64 (y.fst + (1 : Int)), y.snd.fst, ()) () < μ y z)) ∧
                                                                                                            True) ∧
                                                                                                          True) ∧
                                                                                                  True) ∧
                                                                                            True) ∧
                                                                                    True) ∧
                                                                            ((bif decide ((↑(List.length x.fst) : Int) ≤ y.fst) then true
                                                                                else
                                                                                  decide
                                                                                    ((List.getD x.fst (Int.toNat y.fst) (Kd.dft (Kd.pair (Kd.int IntKind.i64) Kd.str))).fst ≠
                                                                                      (List.getD x.snd.fst (Int.toNat y.fst) (Kd.dft (Kd.pair (Kd.int IntKind.i64) Kd.str))).fst)) =
                                                                                !false →
                                                                              ((false = beginsD x.fst x.snd.fst ∧ True) ∧ True) ∧ True)) ∧
                                                                          True) ∧
                                                                      True) ∧
                                                                  True) ∧
                                                    True) ∧
                                                True) ∧
                                            True) ∧
                                        ((decide ((↑(List.length x.fst) : Int) ≤ y.fst) = false → (decide ((↑(List.length x.fst) : Int) ≤ y.fst) == false) = true ∧ True) ∧
                                            ((decide ((↑(List.length x.fst) : Int) ≤ y.fst) = false → (decide ((↑(List.length x.fst) : Int) ≤ y.fst) == false) = true ∧ True) ∧
                                                ((decide ((↑(List.length x.fst) : Int) ≤ y.fst) = false →
                                                      (decide ((↑(List.length x.fst) : Int) ≤ y.fst) == false) = true ∧ (decide ((↑(List.length x.fst) : Int) ≤ y.fst) == false) = true ∧ True) ∧
                                                    ((decide ((↑(List.length x.fst) : Int) ≤ y.fst) = false → (decide ((↑(List.length x.fst) : Int) ≤ y.fst) == false) = true) ∧
                                                        ((bif decide ((↑(List.length x.fst) : Int) ≤ y.fst) then true
                                                              else
                                                                decide
                                                                  ((List.getD x.fst (Int.toNat y.fst) (Kd.dft (Kd.pair (Kd.int IntKind.i64) Kd.str))).fst ≠
                                                                    (List.getD x.snd.fst (Int.toNat y.fst) (Kd.dft (Kd.pair (Kd.int IntKind.i64) Kd.str))).fst)) =
                                                              false →
                                                            ((bif decide ((↑(List.length x.fst) : Int) ≤ y.fst) then true
                                                                  else
                                                                    decide
                                                                      ((List.getD x.fst (Int.toNat y.fst) (Kd.dft (Kd.pair (Kd.int IntKind.i64) Kd.str))).fst ≠
                                                                        (List.getD x.snd.fst (Int.toNat y.fst) (Kd.dft (Kd.pair (Kd.int IntKind.i64) Kd.str))).fst)) ==
                                                                  false) =
                                                                true ∧
                                                              ((bif decide ((↑(List.length x.fst) : Int) ≤ y.fst) then true
                                                                    else
                                                                      decide
                                                                        ((List.getD x.fst (Int.toNat y.fst) (Kd.dft (Kd.pair (Kd.int IntKind.i64) Kd.str))).fst ≠
                                                                          (List.getD x.snd.fst (Int.toNat y.fst) (Kd.dft (Kd.pair (Kd.int IntKind.i64) Kd.str))).fst)) ==
                                                                    false) =
                                                                  true ∧
                                                                ((0 : Int) ≤ y.fst ∧ y.fst < (↑(List.length x.fst) : Int)) ∧ True) ∧
                                                          ((bif decide ((↑(List.length x.fst) : Int) ≤ y.fst) then true
                                                                else
                                                                  decide
                                                                    ((List.getD x.fst (Int.toNat y.fst) (Kd.dft (Kd.pair (Kd.int IntKind.i64) Kd.str))).fst ≠
                                                                      (List.getD x.snd.fst (Int.toNat y.fst) (Kd.dft (Kd.pair (Kd.int IntKind.i64) Kd.str))).fst)) =
                                                                false →
                                                              ((bif decide ((↑(List.length x.fst) : Int) ≤ y.fst) then true
                                                                    else
                                                                      decide
                                                                        ((List.getD x.fst (Int.toNat y.fst) (Kd.dft (Kd.pair (Kd.int IntKind.i64) Kd.str))).fst ≠
                                                                          (List.getD x.snd.fst (Int.toNat y.fst) (Kd.dft (Kd.pair (Kd.int IntKind.i64) Kd.str))).fst)) ==
                                                                    false) =
                                                                  true ∧
                                                                True) ∧
                                                            ((bif decide ((↑(List.length x.fst) : Int) ≤ y.fst) then true
                                                                  else
                                                                    decide
                                                                      ((List.getD x.fst (Int.toNat y.fst) (Kd.dft (Kd.pair (Kd.int IntKind.i64) Kd.str))).fst ≠
                                                                        (List.getD x.snd.fst (Int.toNat y.fst) (Kd.dft (Kd.pair (Kd.int IntKind.i64) Kd.str))).fst)) =
                                                                  false →
                                                                ((bif decide ((↑(List.length x.fst) : Int) ≤ y.fst) then true
                                                                      else
                                                                        decide
                                                                          ((List.getD x.fst (Int.toNat y.fst) (Kd.dft (Kd.pair (Kd.int IntKind.i64) Kd.str))).fst ≠
                                                                            (List.getD x.snd.fst (Int.toNat y.fst) (Kd.dft (Kd.pair (Kd.int IntKind.i64) Kd.str))).fst)) ==
                                                                      false) =
                                                                    true ∧
                                                                  ((bif decide ((↑(List.length x.fst) : Int) ≤ y.fst) then true
                                                                        else
                                                                          decide
                                                                            ((List.getD x.fst (Int.toNat y.fst) (Kd.dft (Kd.pair (Kd.int IntKind.i64) Kd.str))).fst ≠
                                                                              (List.getD x.snd.fst (Int.toNat y.fst) (Kd.dft (Kd.pair (Kd.int IntKind.i64) Kd.str))).fst)) ==
                                                                        false) =
                                                                      true ∧
                                                                    ((0 : Int) ≤ y.fst ∧ y.fst < (↑(List.length x.snd.fst) : Int)) ∧ True) ∧
                                                              ((bif decide ((↑(List.length x.fst) : Int) ≤ y.fst) then true
                                                                    else
                                                                      decide
                                                                        ((List.getD x.fst (Int.toNat y.fst) (Kd.dft (Kd.pair (Kd.int IntKind.i64) Kd.str))).fst ≠
                                                                          (List.getD x.snd.fst (Int.toNat y.fst) (Kd.dft (Kd.pair (Kd.int IntKind.i64) Kd.str))).fst)) =
                                                                    false →
                                                                  ((bif decide ((↑(List.length x.fst) : Int) ≤ y.fst) then true
                                                                        else
                                                                          decide
                                                                            ((List.getD x.fst (Int.toNat y.fst) (Kd.dft (Kd.pair (Kd.int IntKind.i64) Kd.str))).fst ≠
                                                                              (List.getD x.snd.fst (Int.toNat y.fst) (Kd.dft (Kd.pair (Kd.int IntKind.i64) Kd.str))).fst)) ==
                                                                        false) =
                                                                      true ∧
                                                                    True) ∧
                                                                (((bif decide ((↑(List.length x.fst) : Int) ≤ y.fst) then true
                                                                        else
                                                                          decide
                                                                            ((List.getD x.fst (Int.toNat y.fst) (Kd.dft (Kd.pair (Kd.int IntKind.i64) Kd.str))).fst ≠
                                                                              (List.getD x.snd.fst (Int.toNat y.fst) (Kd.dft (Kd.pair (Kd.int IntKind.i64) Kd.str))).fst)) =
                                                                        false →
                                                                      ((bif decide ((↑(List.length x.fst) : Int) ≤ y.fst) then true
                                                                            else
                                                                              decide
                                                                                ((List.getD x.fst (Int.toNat y.fst) (Kd.dft (Kd.pair (Kd.int IntKind.i64) Kd.str))).fst ≠
                                                                                  (List.getD x.snd.fst (Int.toNat y.fst) (Kd.dft (Kd.pair (Kd.int IntKind.i64) Kd.str))).fst)) ==
                                                                            false) =
                                                                          true ∧
                                                                        True) ∧
                                                                    (((bif decide ((↑(List.length x.fst) : Int) ≤ y.fst) then true
                                                                            else
                                                                              decide
                                                                                ((List.getD x.fst (Int.toNat y.fst) (Kd.dft (Kd.pair (Kd.int IntKind.i64) Kd.str))).fst ≠
                                                                                  (List.getD x.snd.fst (Int.toNat y.fst) (Kd.dft (Kd.pair (Kd.int IntKind.i64) Kd.str))).fst)) =
                                                                            false →
                                                                          ((bif decide ((↑(List.length x.fst) : Int) ≤ y.fst) then true
                                                                                else
                                                                                  decide
                                                                                    ((List.getD x.fst (Int.toNat y.fst) (Kd.dft (Kd.pair (Kd.int IntKind.i64) Kd.str))).fst ≠
                                                                                      (List.getD x.snd.fst (Int.toNat y.fst) (Kd.dft (Kd.pair (Kd.int IntKind.i64) Kd.str))).fst)) ==
                                                                                false) =
                                                                              true ∧
                                                                            List.length (List.getD x.fst (Int.toNat y.fst) (Kd.dft (Kd.pair (Kd.int IntKind.i64) Kd.str))).snd ≤ (100000000 : Nat) ∧
                                                                              (∀ (y_1 : List Int × Unit),
                                                                                  Kd.wf Kd.str y_1.fst ∧ True →
                                                                                    y_1.fst = foldD (List.getD x.fst (Int.toNat y.fst) (Kd.dft (Kd.pair (Kd.int IntKind.i64) Kd.str))).snd →
                                                                                      (((bif decide ((↑(List.length x.fst) : Int) ≤ y.fst) then true
                                                                                              else
                                                                                                decide
                                                                                                  ((List.getD x.fst (Int.toNat y.fst) (Kd.dft (Kd.pair (Kd.int IntKind.i64) Kd.str))).fst ≠
                                                                                                    (List.getD x.snd.fst (Int.toNat y.fst) (Kd.dft (Kd.pair (Kd.int IntKind.i64) Kd.str))).fst)) ==
                                                                                              false) =
                                                                                            true ∧
                                                                                          (List.length (List.getD x.snd.fst (Int.toNat y.fst) (Kd.dft (Kd.pair (Kd.int IntKind.i64) Kd.str))).snd ≤
                                                                                                (100000000 : Nat) ∧
                                                                                              (∀ (y_2 : List Int × Unit),
                                                                                                  Kd.wf Kd.str y_2.fst ∧ True →
                                                                                                    y_2.fst =
                                                                                                        foldD (List.getD x.snd.fst (Int.toNat y.fst) (Kd.dft (Kd.pair (Kd.int IntKind.i64) Kd.str))).snd →
                                                                                                      (((decide (y_1.fst ≠ y_2.fst) = true → false = beginsD x.fst x.snd.fst) ∧
                                                                                                            (decide (y_1.fst ≠ y_2.fst) = false →
                                                                                                              x.fst = x.fst ∧
                                                                                                                x.snd.fst = x.snd.fst ∧
                                                                                                                  I (IntKind.wrap IntKind.i64 (y.fst + (1 : Int)), y.snd.fst, ()) () ∧
                                                                                                                    μ (IntKind.wrap IntKind.i64 (y.fst + (1 : Int)), y.snd.fst, ()) () < μ y z)) ∧
                                                                                                          True) ∧
                                                                                                        True) ∧
                                                                                                True) ∧
                                                                                            True) ∧
                                                                                        True) ∧
                                                                                True) ∧
                                                                        ((bif decide ((↑(List.length x.fst) : Int) ≤ y.fst) then true
                                                                            else
                                                                              decide
                                                                                ((List.getD x.fst (Int.toNat y.fst) (Kd.dft (Kd.pair (Kd.int IntKind.i64) Kd.str))).fst ≠
                                                                                  (List.getD x.snd.fst (Int.toNat y.fst) (Kd.dft (Kd.pair (Kd.int IntKind.i64) Kd.str))).fst)) =
                                                                            !false →
                                                                          (((false = beginsD x.fst x.snd.fst ∧ True) ∧ True) ∧ True) ∧ True)) ∧
                                                                      (((bif decide ((↑(List.length x.fst) : Int) ≤ y.fst) then true
                                                                              else
                                                                                decide
                                                                                  ((List.getD x.fst (Int.toNat y.fst) (Kd.dft (Kd.pair (Kd.int IntKind.i64) Kd.str))).fst ≠
                                                                                    (List.getD x.snd.fst (Int.toNat y.fst) (Kd.dft (Kd.pair (Kd.int IntKind.i64) Kd.str))).fst)) =
                                                                              false →
                                                                            ((bif decide ((↑(List.length x.fst) : Int) ≤ y.fst) then true
                                                                                  else
                                                                                    decide
                                                                                      ((List.getD x.fst (Int.toNat y.fst) (Kd.dft (Kd.pair (Kd.int IntKind.i64) Kd.str))).fst ≠
                                                                                        (List.getD x.snd.fst (Int.toNat y.fst) (Kd.dft (Kd.pair (Kd.int IntKind.i64) Kd.str))).fst)) ==
                                                                                  false) =
                                                                                true ∧
                                                                              True) ∧
                                                                          (((bif decide ((↑(List.length x.fst) : Int) ≤ y.fst) then true
                                                                                  else
                                                                                    decide
                                                                                      ((List.getD x.fst (Int.toNat y.fst) (Kd.dft (Kd.pair (Kd.int IntKind.i64) Kd.str))).fst ≠
                                                                                        (List.getD x.snd.fst (Int.toNat y.fst) (Kd.dft (Kd.pair (Kd.int IntKind.i64) Kd.str))).fst)) =
                                                                                  false →
                                                                                ((bif decide ((↑(List.length x.fst) : Int) ≤ y.fst) then true
                                                                                      else
                                                                                        decide
                                                                                          ((List.getD x.fst (Int.toNat y.fst) (Kd.dft (Kd.pair (Kd.int IntKind.i64) Kd.str))).fst ≠
                                                                                            (List.getD x.snd.fst (Int.toNat y.fst) (Kd.dft (Kd.pair (Kd.int IntKind.i64) Kd.str))).fst)) ==
                                                                                      false) =
                                                                                    true ∧
                                                                                  List.length (List.getD x.fst (Int.toNat y.fst) (Kd.dft (Kd.pair (Kd.int IntKind.i64) Kd.str))).snd ≤ (100000000 : Nat) ∧
                                                                                    (∀ (y_1 : List Int × Unit),
                                                                                        Kd.wf Kd.str y_1.fst ∧ True →
                                                                                          y_1.fst = foldD (List.getD x.fst (Int.toNat y.fst) (Kd.dft (Kd.pair (Kd.int IntKind.i64) Kd.str))).snd →
                                                                                            (((bif decide ((↑(List.length x.fst) : Int) ≤ y.fst) then true
                                                                                                    else
                                                                                                      decide
                                                                                                        ((List.getD x.fst (Int.toNat y.fst) (Kd.dft (Kd.pair (Kd.int IntKind.i64) Kd.str))).fst ≠
                                                                                                          (List.getD x.snd.fst (Int.toNat y.fst) (Kd.dft (Kd.pair (Kd.int IntKind.i64) Kd.str))).fst)) ==
                                                                                                    false) =
                                                                                                  true ∧
                                                                                                List.length (List.getD x.snd.fst (Int.toNat y.fst) (Kd.dft (Kd.pair (Kd.int IntKind.i64) Kd.str))).snd ≤
                                                                                                    (100000000 : Nat) ∧
                                                                                                  (∀ (y_2 : List Int × Unit),
                                                                                                      Kd.wf Kd.str y_2.fst ∧ True →
                                                                                                        y_2.fst =
                                                                                                            foldD
                                                                                                              (List.getD x.snd.fst (Int.toNat y.fst) (Kd.dft (Kd.pair (Kd.int IntKind.i64) Kd.str))).snd →
                                                                                                          (((decide (y_1.fst ≠ y_2.fst) = true → false = beginsD x.fst x.snd.fst) ∧
                                                                                                                (decide (y_1.fst ≠ y_2.fst) = false →
                                                                                                                  x.fst = x.fst ∧
                                                                                                                    x.snd.fst = x.snd.fst ∧
                                                                                                                      I (IntKind.wrap IntKind.i64 (y.fst + (1 : Int)), y.snd.fst, ()) () ∧
                                                                                                                        μ (IntKind.wrap IntKind.i64 (y.fst + (1 : Int)), y.snd.fst, ()) () < μ y z)) ∧
                                                                                                              True) ∧
                                                                                                            True) ∧
                                                                                                    True) ∧
                                                                                              True) ∧
                                                                                      True) ∧
                                                                              ((bif decide ((↑(List.length x.fst) : Int) ≤ y.fst) then true
                                                                                  else
                                                                                    decide
                                                                                      ((List.getD x.fst (Int.toNat y.fst) (Kd.dft (Kd.pair (Kd.int IntKind.i64) Kd.str))).fst ≠
                                                                                        (List.getD x.snd.fst (Int.toNat y.fst) (Kd.dft (Kd.pair (Kd.int IntKind.i64) Kd.str))).fst)) =
                                                                                  !false →
                                                                                ((false = beginsD x.fst x.snd.fst ∧ True) ∧ True) ∧ True)) ∧
                                                                            True) ∧
                                                                        True) ∧
                                                                  (((bif decide ((↑(List.length x.fst) : Int) ≤ y.fst) then true
                                                                          else
                                                                            decide
                                                                              ((List.getD x.fst (Int.toNat y.fst) (Kd.dft (Kd.pair (Kd.int IntKind.i64) Kd.str))).fst ≠
                                                                                (List.getD x.snd.fst (Int.toNat y.fst) (Kd.dft (Kd.pair (Kd.int IntKind.i64) Kd.str))).fst)) =
                                                                          false →
                                                                        ((bif decide ((↑(List.length x.fst) : Int) ≤ y.fst) then true
                                                                              else
                                                                                decide
                                                                                  ((List.getD x.fst (Int.toNat y.fst) (Kd.dft (Kd.pair (Kd.int IntKind.i64) Kd.str))).fst ≠
                                                                                    (List.getD x.snd.fst (Int.toNat y.fst) (Kd.dft (Kd.pair (Kd.int IntKind.i64) Kd.str))).fst)) ==
                                                                              false) =
                                                                            true ∧
                                                                          True) ∧
                                                                      (((bif decide ((↑(List.length x.fst) : Int) ≤ y.fst) then true
                                                                              else
                                                                                decide
                                                                                  ((List.getD x.fst (Int.toNat y.fst) (Kd.dft (Kd.pair (Kd.int IntKind.i64) Kd.str))).fst ≠
                                                                                    (List.getD x.snd.fst (Int.toNat y.fst) (Kd.dft (Kd.pair (Kd.int IntKind.i64) Kd.str))).fst)) =
                                                                              false →
                                                                            ((bif decide ((↑(List.length x.fst) : Int) ≤ y.fst) then true
                                                                                  else
                                                                                    decide
                                                                                      ((List.getD x.fst (Int.toNat y.fst) (Kd.dft (Kd.pair (Kd.int IntKind.i64) Kd.str))).fst ≠
                                                                                        (List.getD x.snd.fst (Int.toNat y.fst) (Kd.dft (Kd.pair (Kd.int IntKind.i64) Kd.str))).fst)) ==
                                                                                  false) =
                                                                                true ∧
                                                                              True) ∧
                                                                          (((bif decide ((↑(List.length x.fst) : Int) ≤ y.fst) then true
                                                                                  else
                                                                                    decide
                                                                                      ((List.getD x.fst (Int.toNat y.fst) (Kd.dft (Kd.pair (Kd.int IntKind.i64) Kd.str))).fst ≠
                                                                                        (List.getD x.snd.fst (Int.toNat y.fst) (Kd.dft (Kd.pair (Kd.int IntKind.i64) Kd.str))).fst)) =
                                                                                  false →
                                                                                ((bif decide ((↑(List.length x.fst) : Int) ≤ y.fst) then true
                                                                                      else
                                                                                        decide
                                                                                          ((List.getD x.fst (Int.toNat y.fst) (Kd.dft (Kd.pair (Kd.int IntKind.i64) Kd.str))).fst ≠
                                                                                            (List.getD x.snd.fst (Int.toNat y.fst) (Kd.dft (Kd.pair (Kd.int IntKind.i64) Kd.str))).fst)) ==
                                                                                      false) =
                                                                                    true ∧
                                                                                  List.length (List.getD x.fst (Int.toNat y.fst) (Kd.dft (Kd.pair (Kd.int IntKind.i64) Kd.str))).snd ≤ (100000000 : Nat) ∧
                                                                                    (∀ (y_1 : List Int × Unit),
                                                                                        Kd.wf Kd.str y_1.fst ∧ True →
                                                                                          y_1.fst = foldD (List.getD x.fst (Int.toNat y.fst) (Kd.dft (Kd.pair (Kd.int IntKind.i64) Kd.str))).snd →
                                                                                            (((bif decide ((↑(List.length x.fst) : Int) ≤ y.fst) then true
                                                                                                    else
                                                                                                      decide
                                                                                                        ((List.getD x.fst (Int.toNat y.fst) (Kd.dft (Kd.pair (Kd.int IntKind.i64) Kd.str))).fst ≠
                                                                                                          (List.getD x.snd.fst (Int.toNat y.fst) (Kd.dft (Kd.pair (Kd.int IntKind.i64) Kd.str))).fst)) ==
                                                                                                    false) =
                                                                                                  true ∧
                                                                                                List.length (List.getD x.snd.fst (Int.toNat y.fst) (Kd.dft (Kd.pair (Kd.int IntKind.i64) Kd.str))).snd ≤
                                                                                                    (100000000 : Nat) ∧
                                                                                                  (∀ (y_2 : List Int × Unit),
                                                                                                      Kd.wf Kd.str y_2.fst ∧ True →
                                                                                                        y_2.fst =
                                                                                                            foldD
                                                                                                              (List.getD x.snd.fst (Int.toNat y.fst) (Kd.dft (Kd.pair (Kd.int IntKind.i64) Kd.str))).snd →
                                                                                                          (((decide (y_1.fst ≠ y_2.fst) = true → false = beginsD x.fst x.snd.fst) ∧
                                                                                                                (decide (y_1.fst ≠ y_2.fst) = false →
                                                                                                                  x.fst = x.fst ∧
                                                                                                                    x.snd.fst = x.snd.fst ∧
                                                                                                                      I (IntKind.wrap IntKind.i64 (y.fst + (1 : Int)), y.snd.fst, ()) () ∧
                                                                                                                        μ (IntKind.wrap IntKind.i64 (y.fst + (1 : Int)), y.snd.fst, ()) () < μ y z)) ∧
                                                                                                              True) ∧
                                                                                                            True) ∧
                                                                                                    True) ∧
                                                                                              True) ∧
                                                                                      True) ∧
                                                                              ((bif decide ((↑(List.length x.fst) : Int) ≤ y.fst) then true
                                                                                  else
                                                                                    decide
                                                                                      ((List.getD x.fst (Int.toNat y.fst) (Kd.dft (Kd.pair (Kd.int IntKind.i64) Kd.str))).fst ≠
                                                                                        (List.getD x.snd.fst (Int.toNat y.fst) (Kd.dft (Kd.pair (Kd.int IntKind.i64) Kd.str))).fst)) =
                                                                                  !false →
                                                                                ((false = beginsD x.fst x.snd.fst ∧ True) ∧ True) ∧ True)) ∧
                                                                            True) ∧
                                                                        True) ∧
                                                                    True) ∧
                                                      True) ∧
                                                  True) ∧
                                              True) ∧
                                          True) ∧
                              True) ∧
                            True) ∧
                        (decide (y.fst < (↑(List.length x.snd.fst) : Int)) = false → true = beginsD x.fst x.snd.fst)
theorem e14 : t14 = Con.vc c_r12_Begins GL (mkEnv ty [(33, conSem c_r05_Fold)] [] [] [0, 1, 4, 5, 9, 43]) {} Tryd.f14.ntmps Tryd.f14.results.toList (bodyOf Tryd.f14) := by kernel_rfl
theorem k14 : t14 := by
  unfold t14
  rintro ⟨l, m, _⟩ hx hp
  obtain ⟨h1, h2, h3⟩ := hp
  simp only at h1 h2 h3
  try dsimp +instances only [dft_int, dft_sl, dft_str]
  simp only [true_and, and_true, eq_self_iff_true, implies_true, reduceCtorEq, false_implies, true_implies, decide_eq_true_eq, decide_eq_false_iff_not, beq_self_eq_true, Bool.not_eq_true', ne_eq, Decidable.not_not, List.nil_append, List.length_singleton, List.length_cons, List.length_nil, Nat.zero_add, Nat.add_zero, Nat.mul_one, and_self, beq_iff_eq, Bool.not_true, Bool.not_false, Bool.not_eq_false', Bool.cond_false_right, Bool.and_eq_true, imp_self, Bool.not_eq_true, Bool.cond_true_left, Bool.or_eq_true]
  simp only [adft_eq2]
  have hlen : beginsD l m = true → m.length ≤ l.length := fun h => ((begins_iff l m).1 h).1
  have hbad : ∀ i, i < m.length → sameA (l.getD i adft) (m.getD i adft) = false → false = beginsD l m := fun i hi hf => by
    cases hb : beginsD l m with
    | false => rfl
    | true => have := ((begins_iff l m).1 hb).2 i hi; rw [hf] at this; cases this
  refine ⟨fun y _ => 0 ≤ y.1 ∧ y.1 ≤ m.length ∧ y.1 ≤ l.length ∧ ∀ j, j < y.1.toNat → sameA (l.getD j adft) (m.getD j adft) = true, fun y _ => ((m.length : Int) - y.1).toNat, ⟨Int.le_refl 0, by simp only; omega, by simp only; omega, fun j hj => by simp at hj⟩, ?_⟩
  rintro ⟨i, b, _⟩ _ _ ⟨i0, i1, i3, i2⟩
  simp only at i0 i1 i2 i3 ⊢
  refine ⟨fun hlt => ?_, fun hge => ((begins_iff l m).2 ⟨by omega, fun j hj => i2 j (by omega)⟩).symm⟩
  have hw1 : IntKind.wrap .i64 (i + 1) = i + 1 := wrapK _ (by omega) (by omega)
  rw [hw1]
  simp only [Bool.or_eq_false_iff, decide_eq_false_iff_not]
  refine ⟨fun h => ⟨h, h, i0, by omega⟩, fun h => ⟨h, h, i0, hlt⟩, fun h => ⟨h, h, i0, by omega⟩, fun h => ⟨h, h, i0, hlt⟩, fun h => ⟨h, h2 _ (mem_getD adft l _ (by omega)), ?_⟩, fun h => ?_⟩
  · rintro ⟨c, _⟩ _ ec
    simp only at ec ⊢
    refine ⟨h, h3 _ (mem_getD adft m _ (by omega)), ?_⟩
    rintro ⟨d, _⟩ _ ed
    simp only at ed ⊢
    have hs : sameA (l.getD i.toNat adft) (m.getD i.toNat adft) = decide (c = d) := by
      rw [sameA, decide_eq_true (dec_not h.2), ec, ed, Bool.true_and]
    refine ⟨fun hc => hbad i.toNat (by omega) (hs.trans (decide_eq_false hc)), fun hc => ⟨⟨by omega, by omega, by omega, fun j hj => ?_⟩, by omega⟩⟩
    by_cases hji : j < i.toNat
    · exact i2 j hji
    · rw [show j = i.toNat by omega]; exact hs.trans (decide_eq_true hc)
  · rcases h with h | h
    · cases hb : beginsD l m with
      | false => rfl
      | true => have := hlen hb; omega
    · refine hbad i.toNat (by omega) ?_
      rw [sameA, decide_eq_false h]; rfl
theorem h14 : c_r12_Begins.ok Tryd.prog GL 14 := con_ok (H := {}) (mkEnv_ok (gl := GL) (l := [(33, conSem c_r05_Fold)]) (q := []) (d := []) _ tyOk (by kernel_rfl) ⟨h33.call, trivial⟩ trivial trivial) (by kernel_rfl) (by kernel_rfl) (Eq.mp e14 k14)

def t12 : Prop :=
  ∀ (x : List (Int × List Int) × List (Int × List Int) × Unit),
    Kd.wf (Kd.sl (Kd.pair (Kd.int IntKind.i64) Kd.str)) x.fst ∧ Kd.wf (Kd.sl (Kd.pair (Kd.int IntKind.i64) Kd.str)) x.snd.fst ∧ True →
      (List.length x.fst ≤ (1000000000 : Nat) ∧
          List.length x.snd.fst ≤ (1000000000 : Nat) ∧
            (∀ (a : Int × List Int), a ∈ x.fst → List.length a.snd ≤ (100000000 : Nat)) ∧ ∀ (a : Int × List Int), a ∈ x.snd.fst → List.length a.snd ≤ (100000000 : Nat)) →
        (List.length x.snd.fst ≤ (1000000000 : Nat) ∧
            (∀ (a : Int × List Int), a ∈ x.fst → List.length a.snd ≤ (100000000 : Nat)) ∧ ∀ (a : Int × List Int), a ∈ x.snd.fst → List.length a.snd ≤ (100000000 : Nat)) ∧
          (∀ (y : Bool × Unit),
              Kd.wf Kd.bool y.fst ∧ True →
                y.fst = beginsD x.fst x.snd.fst →
                  (y.fst = true → True) ∧
                    (y.fst = true → True) ∧
                      (y.fst = true →
                          (y.fst == true) = true ∧
                            (y.fst == true) = true ∧
                              (List.length x.fst ≤ (1000000000 : Nat) ∧
                                  (∀ (a : Int × List Int), a ∈ x.snd.fst → List.length a.snd ≤ (100000000 : Nat)) ∧ ∀ (a : Int × List Int), a ∈ x.fst → List.length a.snd ≤ (100000000 : Nat)) ∧
                                (∀ (y : Bool × Unit), Kd.wf Kd.bool y.fst ∧ True → y.fst = beginsD x.snd.fst x.fst → y.fst = sameN x.fst x.snd.fst) ∧ True) ∧
                        (y.fst = !true → false = sameN x.fst x.snd.fst)) ∧
            True
theorem e12 : t12 = Con.vc c_r12_Same GL (mkEnv ty [(14, conSem c_r12_Begins)] [] [] [0, 1, 4]) {} Tryd.f12.ntmps Tryd.f12.results.toList (bodyOf Tryd.f12) := by kernel_rfl
theorem k12 : t12 := by
  unfold t12
  rintro ⟨l, m, _⟩ hx hp
  obtain ⟨h0, h1, h2, h3⟩ := hp
  simp only at h0 h1 h2 h3
  try dsimp +instances only [dft_int, dft_sl, dft_str]
  simp only [true_and, and_true, eq_self_iff_true, implies_true, reduceCtorEq, false_implies, true_implies, decide_eq_true_eq, decide_eq_false_iff_not, beq_self_eq_true, Bool.not_eq_true', ne_eq, Decidable.not_not, List.nil_append, List.length_singleton, List.length_cons, List.length_nil, Nat.zero_add, Nat.add_zero, Nat.mul_one, and_self, beq_iff_eq, Bool.not_true, Bool.not_false, Bool.not_eq_false', Bool.cond_false_right, Bool.and_eq_true, imp_self, Bool.not_eq_true, Bool.cond_true_left, Bool.or_eq_true]
  simp only [all_bool]
  refine ⟨⟨h1, h2, h3⟩, fun h => ⟨h, h, ⟨h0, h3, h2⟩, ?_⟩, fun h => ?_⟩
  · rw [Bool.eq_iff_iff, same_iff, h]; simp
  · cases hq : sameN l m with
    | false => rfl
    | true => rw [((same_iff l m).1 hq).1] at h; cases h
theorem h12 : c_r12_Same.ok Tryd.prog GL 12 := con_ok (H := {}) (mkEnv_ok (gl := GL) (l := [(14, conSem c_r12_Begins)]) (q := []) (d := []) _ tyOk (by kernel_rfl) ⟨h14.call, trivial⟩ trivial trivial) (by kernel_rfl) (by kernel_rfl) (Eq.mp e12 k12)

end Go.Proofs.YtcaekpbmmbfeiaaDoor
