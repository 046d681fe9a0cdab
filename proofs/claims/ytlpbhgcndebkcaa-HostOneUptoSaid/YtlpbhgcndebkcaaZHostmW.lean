/- Walks. -/
import Derived.Test.YtlpbhgcndebkcaaZHostmA
set_option linter.unusedVariables false
set_option linter.unusedSimpArgs false
namespace Go.Proofs.Ytlpbhgcndebkcaa
open Go Go.Vc Go.Pl Go.Proofs
set_option linter.unusedVariables false
set_option linter.unusedSimpArgs false
def t33 : Prop :=
  ∀ (x : List Int × Unit),
    Kd.wf Kd.str x.fst ∧ True →
      List.length x.fst ≤ (1000000000 : Nat) →
        ∃ (I : Int × Unit → List Int × Unit → Prop),
          ∃ (μ : Int × Unit → List Int × Unit → Nat),
            ((↑(List.length x.fst) : Int) = (↑(List.length x.fst) : Int) ∧ bs { data := #[] } = bs { data := #[] } ∧ x.fst = x.fst ∧ I ((0 : Int), ()) (x.fst, ())) ∧
              ∀ (y : Int × Unit) (z : List Int × Unit),
                Kd.wf (Kd.int IntKind.i64) y.fst ∧ True →
                  Kd.wf (Kd.sl (Kd.int IntKind.u8)) z.fst ∧ True →
                    I y z →
                      (decide (y.fst < (↑(List.length x.fst) : Int)) = true →
                          ((0 : Int) ≤ y.fst ∧ y.fst < (↑(List.length z.fst) : Int)) ∧
                            (decide ((65 : Int) ≤ List.getD z.fst (Int.toNat y.fst) (Kd.dft (Kd.int IntKind.u8))) = true → True) ∧
                              (decide ((65 : Int) ≤ List.getD z.fst (Int.toNat y.fst) (Kd.dft (Kd.int IntKind.u8))) = true →
                                  (decide ((65 : Int) ≤ List.getD z.fst (Int.toNat y.fst) (Kd.dft (Kd.int IntKind.u8))) == true) = true ∧ True) ∧
                                (decide ((65 : Int) ≤ List.getD z.fst (Int.toNat y.fst) (Kd.dft (Kd.int IntKind.u8))) = true →
                                    (decide ((65 : Int) ≤ List.getD z.fst (Int.toNat y.fst) (Kd.dft (Kd.int IntKind.u8))) == true) = true) ∧
                                  ((bif decide ((65 : Int) ≤ List.getD z.fst (Int.toNat y.fst) (Kd.dft (Kd.int IntKind.u8))) then
                                          decide (List.getD z.fst (Int.toNat y.fst) (Kd.dft (Kd.int IntKind.u8)) ≤ (90 : Int))
                                        else false) =
                                        true →
                                      ((0 : Int) ≤ y.fst ∧ y.fst < (↑(List.length z.fst) : Int)) ∧
                                        (↑(List.length x.fst) : Int) = (↑(List.length x.fst) : Int) ∧
                                          bs { data := #[] } = bs { data := #[] } ∧
                                            x.fst = x.fst ∧
                                              I (IntKind.wrap IntKind.i64 (y.fst + (1 : Int)), ())
                                                  (List.set z.fst (Int.toNat y.fst)
                                                      (IntKind.wrap IntKind.u8 (IntKind.wrap IntKind.u8 (List.getD z.fst (Int.toNat y.fst) (Kd.dft (Kd.int IntKind.u8)) + (97 : Int)) - (65 : Int))),
                                                    ()) ∧
                                                μ (IntKind.wrap IntKind.i64 (y.fst + (1 : Int)), ())
                                                    (List.set z.fst (Int.toNat y.fst)
                                                        (IntKind.wrap IntKind.u8 (IntKind.wrap IntKind.u8 (List.getD z.fst (Int.toNat y.fst) (Kd.dft (Kd.int IntKind.u8)) + (97 : Int)) - (65 : Int))),
                                                      ()) <
                                                  μ y z) ∧
                                    ((bif decide ((65 : Int) ≤ List.getD z.fst (Int.toNat y.fst) (Kd.dft (Kd.int IntKind.u8))) then
                                          decide (List.getD z.fst (Int.toNat y.fst) (Kd.dft (Kd.int IntKind.u8)) ≤ (90 : Int))
                                        else false) =
                                        false →
                                      (↑(List.length x.fst) : Int) = (↑(List.length x.fst) : Int) ∧
                                        bs { data := #[] } = bs { data := #[] } ∧
                                          x.fst = x.fst ∧ I (IntKind.wrap IntKind.i64 (y.fst + (1 : Int)), ()) (z.fst, ()) ∧ μ (IntKind.wrap IntKind.i64 (y.fst + (1 : Int)), ()) (z.fst, ()) < μ y z)) ∧
                        (decide (y.fst < (↑(List.length x.fst) : Int)) = false → z.fst = lowD x.fst)
theorem e33 : t33 = Con.vc c_host_small GL (mkEnvO ty [] [] [] [0, 2, 3, 4, 5, 8, 9, 10, 11, 20] [7]) {} Try.f33.ntmps Try.f33.results.toList (bodyOf Try.f33) := by kernel_rfl
theorem k33 : t33 := by
  unfold t33
  rintro ⟨l, _⟩ hx hp
  have hp : l.length ≤ 1000000000 := hp
  try dsimp +instances only [dft_int, dft_sl, dft_str]
  simp only [true_and, and_true, eq_self_iff_true, implies_true, reduceCtorEq, false_implies, true_implies, decide_eq_true_eq, decide_eq_false_iff_not, beq_self_eq_true, Bool.not_eq_true', ne_eq, Decidable.not_not, List.nil_append, List.length_singleton, List.length_cons, List.length_nil, Nat.zero_add, Nat.add_zero, Nat.mul_one, and_self, beq_iff_eq, Bool.not_true, Bool.not_false, Bool.not_eq_false', Bool.cond_false_right, Bool.and_eq_true, imp_self, Bool.not_eq_true, Bool.cond_true_left, Bool.or_eq_true]
  refine ⟨fun y z => 0 ≤ y.1 ∧ y.1 ≤ l.length ∧ z.1 = lowD (l.take y.1.toNat) ++ l.drop y.1.toNat, fun y _ => ((l.length : Int) - y.1).toNat, ⟨Int.le_refl 0, by simp only; omega, rfl⟩, ?_⟩
  rintro ⟨i, _⟩ ⟨z, _⟩ _ _ ⟨i0, i1, ez⟩
  simp only at i0 i1 ez ⊢
  have hw1 : IntKind.wrap .i64 (i + 1) = i + 1 := wrapK _ (by omega) (by omega)
  have hzl : (lowD (l.take i.toNat)).length = i.toNat := by rw [low_len, List.length_take]; omega
  have hll : z.length = l.length := by rw [ez, List.length_append, hzl, List.length_drop]; omega
  rw [hw1]
  have e1 : (i + 1).toNat = i.toNat + 1 := by omega
  have hg : z.getD i.toNat 0 = l.getD i.toNat 0 := by
    have := getD_append_right (lowD (l.take i.toNat)) (l.drop i.toNat) 0
    rw [hzl, Nat.add_zero] at this
    rw [ez, this, getD_drop, Nat.add_zero]
  have step : i < l.length → lowD (l.take (i + 1).toNat) = lowD (l.take i.toNat) ++ [smallD (l.getD i.toNat 0)] := fun hlt => by
    rw [e1, take_snoc l i.toNat (by omega)]
    simp [lowD]
  rw [hg]
  refine ⟨fun hlt => ⟨⟨i0, by omega⟩, fun h => ⟨⟨i0, by omega⟩, ⟨by omega, by omega, ?_⟩, by omega⟩, fun h => ⟨⟨by omega, by omega, ?_⟩, by omega⟩⟩, fun hge => ?_⟩
  · have w1 : IntKind.wrap .u8 (l.getD i.toNat 0 + 97) = l.getD i.toNat 0 + 97 := wrap8 _ (by omega) (by omega)
    rw [w1, wrap8 (l.getD i.toNat 0 + 97 - 65) (by omega) (by omega), step hlt, smallD, if_pos h, ez, drop_cons l i.toNat (by omega)]
    have e2 : (lowD (l.take i.toNat) ++ l.getD i.toNat 0 :: l.drop (i.toNat + 1)).set i.toNat (l.getD i.toNat 0 + 97 - 65) = lowD (l.take i.toNat) ++ (l.getD i.toNat 0 + 97 - 65) :: l.drop (i.toNat + 1) := by
      rw [List.set_append_right _ _ (by omega), hzl, Nat.sub_self]; rfl
    rw [e2, e1, List.append_assoc, show l.getD i.toNat 0 + 97 - 65 = l.getD i.toNat 0 + 32 by omega]
    rfl
  · simp only [Bool.and_eq_false_iff, decide_eq_false_iff_not] at h
    rw [step hlt, smallD, if_neg (by omega), ez, drop_cons l i.toNat (by omega), e1, List.append_assoc]
    rfl
  · rw [ez, List.take_of_length_le (by omega), List.drop_of_length_le (by omega), List.append_nil]
theorem h33 : c_host_small.ok Try.prog GL 33 := conO_ok (H := {}) (mkEnvO_ok (gl := GL) (l := []) (q := []) (d := []) _ [7] tyOk (by kernel_rfl) trivial trivial trivial) (by kernel_rfl) (by kernel_rfl) (Eq.mp e33 k33)

def t34 : Prop :=
  ∀ (x : List Int × Unit),
    Kd.wf Kd.str x.fst ∧ True →
      List.length x.fst ≤ (1000000000 : Nat) →
        ∃ (I : Int × Unit → List Int × Unit → Prop),
          ∃ (μ : Int × Unit → List Int × Unit → Nat),
            (bs { data := #[] } = bs { data := #[] } ∧ x.fst = x.fst ∧ I ((0 : Int), ()) ([], ())) ∧
              ∀ (y : Int × Unit) (z : List Int × Unit),
                Kd.wf (Kd.int IntKind.i64) y.fst ∧ True →
                  Kd.wf (Kd.sl (Kd.int IntKind.u8)) z.fst ∧ True →
                    I y z →
                      (decide (y.fst < (↑(List.length x.fst) : Int)) = true →
                          ((0 : Int) ≤ y.fst ∧ y.fst < (↑(List.length x.fst) : Int)) ∧
                            (decide ((65 : Int) ≤ List.getD x.fst (Int.toNat y.fst) (0 : Int)) = true → True) ∧
                              (decide ((65 : Int) ≤ List.getD x.fst (Int.toNat y.fst) (0 : Int)) = true → (decide ((65 : Int) ≤ List.getD x.fst (Int.toNat y.fst) (0 : Int)) == true) = true ∧ True) ∧
                                (decide ((65 : Int) ≤ List.getD x.fst (Int.toNat y.fst) (0 : Int)) = true → (decide ((65 : Int) ≤ List.getD x.fst (Int.toNat y.fst) (0 : Int)) == true) = true) ∧
                                  ((bif decide ((65 : Int) ≤ List.getD x.fst (Int.toNat y.fst) (0 : Int)) then decide (List.getD x.fst (Int.toNat y.fst) (0 : Int) ≤ (90 : Int)) else false) = true →
                                      (0 : Nat) < (1 : Nat) ∧
                                        (List.length z.fst + List.length [IntKind.wrap IntKind.u8 (List.getD x.fst (Int.toNat y.fst) (0 : Int) + (32 : Int))]) * (1 : Nat) ≤ (140737488355328 : Nat) ∧
                                          List.length z.fst + List.length [IntKind.wrap IntKind.u8 (List.getD x.fst (Int.toNat y.fst) (0 : Int) + (32 : Int))] ≤ (9223372036854775807 : Nat) ∧
                                            bs { data := #[] } = bs { data := #[] } ∧
                                              x.fst = x.fst ∧
                                                I (IntKind.wrap IntKind.i64 (y.fst + (1 : Int)), ()) (z.fst ++ [IntKind.wrap IntKind.u8 (List.getD x.fst (Int.toNat y.fst) (0 : Int) + (32 : Int))], ()) ∧
                                                  μ (IntKind.wrap IntKind.i64 (y.fst + (1 : Int)), ())
                                                      (z.fst ++ [IntKind.wrap IntKind.u8 (List.getD x.fst (Int.toNat y.fst) (0 : Int) + (32 : Int))], ()) <
                                                    μ y z) ∧
                                    ((bif decide ((65 : Int) ≤ List.getD x.fst (Int.toNat y.fst) (0 : Int)) then decide (List.getD x.fst (Int.toNat y.fst) (0 : Int) ≤ (90 : Int)) else false) = false →
                                      (0 : Nat) < (1 : Nat) ∧
                                        (List.length z.fst + List.length [List.getD x.fst (Int.toNat y.fst) (0 : Int)]) * (1 : Nat) ≤ (140737488355328 : Nat) ∧
                                          List.length z.fst + List.length [List.getD x.fst (Int.toNat y.fst) (0 : Int)] ≤ (9223372036854775807 : Nat) ∧
                                            bs { data := #[] } = bs { data := #[] } ∧
                                              x.fst = x.fst ∧
                                                I (IntKind.wrap IntKind.i64 (y.fst + (1 : Int)), ()) (z.fst ++ [List.getD x.fst (Int.toNat y.fst) (0 : Int)], ()) ∧
                                                  μ (IntKind.wrap IntKind.i64 (y.fst + (1 : Int)), ()) (z.fst ++ [List.getD x.fst (Int.toNat y.fst) (0 : Int)], ()) < μ y z)) ∧
                        (decide (y.fst < (↑(List.length x.fst) : Int)) = false → z.fst = lowD x.fst)
theorem e34 : t34 = Con.vc c_r13_Small GL (mkEnv ty [] [] [] [0, 2, 3, 4, 5, 9, 20]) {} Try.f34.ntmps Try.f34.results.toList (bodyOf Try.f34) := by kernel_rfl
theorem k34 : t34 := by
  unfold t34
  rintro ⟨l, _⟩ hx hp
  have hp : l.length ≤ 1000000000 := hp
  try dsimp +instances only [dft_int, dft_sl, dft_str]
  simp only [true_and, and_true, eq_self_iff_true, implies_true, reduceCtorEq, false_implies, true_implies, decide_eq_true_eq, decide_eq_false_iff_not, beq_self_eq_true, Bool.not_eq_true', ne_eq, Decidable.not_not, List.nil_append, List.length_singleton, List.length_cons, List.length_nil, Nat.zero_add, Nat.add_zero, Nat.mul_one, and_self, beq_iff_eq, Bool.not_true, Bool.not_false, Bool.not_eq_false', Bool.cond_false_right, Bool.and_eq_true, imp_self, Bool.not_eq_true, Bool.cond_true_left, Bool.or_eq_true]
  refine ⟨fun y z => 0 ≤ y.1 ∧ y.1 ≤ l.length ∧ z.1 = lowD (l.take y.1.toNat), fun y _ => ((l.length : Int) - y.1).toNat, ⟨Int.le_refl 0, by simp only; omega, rfl⟩, ?_⟩
  rintro ⟨i, _⟩ ⟨z, _⟩ _ _ ⟨i0, i1, ez⟩
  simp only at i0 i1 ez ⊢
  have hw1 : IntKind.wrap .i64 (i + 1) = i + 1 := wrapK _ (by omega) (by omega)
  have hzl : z.length = i.toNat := by rw [ez, low_len, List.length_take]; omega
  rw [hw1]
  have step : i < l.length → ∀ c, c = smallD (l.getD i.toNat 0) → z ++ [c] = lowD (l.take (i + 1).toNat) := fun hlt c hc => by
    rw [show (i + 1).toNat = i.toNat + 1 by omega, take_snoc l i.toNat (by omega), ez, hc]
    simp [lowD]
  refine ⟨fun hlt => ⟨⟨i0, hlt⟩, fun h => ⟨by decide, by omega, by omega, ⟨by omega, by omega, step hlt _ ?_⟩, by omega⟩, fun h => ⟨by decide, by omega, by omega, ⟨by omega, by omega, step hlt _ ?_⟩, by omega⟩⟩, fun hge => by rw [ez, List.take_of_length_le (by omega)]⟩
  · rw [smallD, if_pos h, wrap8 _ (by omega) (by omega)]
  · simp only [Bool.and_eq_false_iff, decide_eq_false_iff_not] at h
    rw [smallD, if_neg (by omega)]
theorem h34 : c_r13_Small.ok Try.prog GL 34 := con_ok (H := {}) (mkEnv_ok (gl := GL) (l := []) (q := []) (d := []) _ tyOk (by kernel_rfl) trivial trivial trivial) (by kernel_rfl) (by kernel_rfl) (Eq.mp e34 k34)

def t18 : Prop :=
  ∀ (x : List Int × List Int × Unit),
    Kd.wf Kd.str x.fst ∧ Kd.wf Kd.str x.snd.fst ∧ True →
      List.length x.fst ≤ (1000000000 : Nat) ∧ List.length x.snd.fst ≤ (1000000000 : Nat) →
        List.length x.snd.fst ≤ (1000000000 : Nat) ∧
          (∀ (y : Bool × Unit),
              Kd.wf Kd.bool y.fst ∧ True →
                y.fst = dnsD x.snd.fst →
                  ((!y.fst) = true → false = matchD x.fst x.snd.fst) ∧
                    ((!y.fst) = false →
                      List.length x.fst ≤ (1000000000 : Nat) ∧
                        (∀ (y : Bool × Unit),
                            Kd.wf Kd.bool y.fst ∧ True →
                              y.fst = dnsD x.fst →
                                (y.fst = true →
                                    List.length x.fst ≤ (1000000000 : Nat) ∧
                                      (∀ (y : List Int × Unit),
                                          Kd.wf Kd.str y.fst ∧ True →
                                            y.fst = lowD x.fst →
                                              List.length x.snd.fst ≤ (1000000000 : Nat) ∧
                                                (∀ (y_1 : List Int × Unit), Kd.wf Kd.str y_1.fst ∧ True → y_1.fst = lowD x.snd.fst → decide (y.fst = y_1.fst) = matchD x.fst x.snd.fst) ∧ True) ∧
                                        True) ∧
                                  (y.fst = false →
                                    List.length x.fst ≤ (1000000000 : Nat) ∧
                                      (∀ (y : Bool × Unit),
                                          Kd.wf Kd.bool y.fst ∧ True →
                                            y.fst = wildD x.fst →
                                              ((!y.fst) = true → false = matchD x.fst x.snd.fst) ∧
                                                ((!y.fst) = false →
                                                  List.length x.snd.fst ≤ (1000000000 : Nat) ∧
                                                    (∀ (y : List Int × Unit),
                                                        Kd.wf Kd.str y.fst ∧ True →
                                                          y.fst = lowD x.snd.fst →
                                                            (List.length y.fst < (4294967281 : Nat) ∧ List.length (bs { data := #[(46 : UInt8)] }) = (1 : Nat)) ∧
                                                              (∀ (y_1 : List Int × List Int × Bool × Unit),
                                                                  Kd.wf Kd.str y_1.fst ∧ Kd.wf Kd.str y_1.snd.fst ∧ Kd.wf Kd.bool y_1.snd.snd.fst ∧ True →
                                                                    y_1.fst = (cutD (List.getD (bs { data := #[(46 : UInt8)] }) (0 : Nat) (0 : Int)) y.fst).fst ∧
                                                                        y_1.snd.fst = (cutD (List.getD (bs { data := #[(46 : UInt8)] }) (0 : Nat) (0 : Int)) y.fst).snd.fst ∧
                                                                          y_1.snd.snd.fst = (cutD (List.getD (bs { data := #[(46 : UInt8)] }) (0 : Nat) (0 : Int)) y.fst).snd.snd →
                                                                      (y_1.snd.snd.fst = true → True) ∧
                                                                        (y_1.snd.snd.fst = true → True) ∧
                                                                          (y_1.snd.snd.fst = true →
                                                                              (y_1.snd.snd.fst == true) = true ∧ ((0 : Int) ≤ (2 : Int) ∧ (2 : Int) ≤ (↑(List.length x.fst) : Int)) ∧ True) ∧
                                                                            (y_1.snd.snd.fst = true →
                                                                                (y_1.snd.snd.fst == true) = true ∧
                                                                                  List.length (List.drop (2 : Nat) x.fst) ≤ (1000000000 : Nat) ∧
                                                                                    (∀ (y : List Int × Unit),
                                                                                        Kd.wf Kd.str y.fst ∧ True →
                                                                                          y.fst = lowD (List.drop (2 : Nat) x.fst) →
                                                                                            (y_1.snd.snd.fst == true) = true ∧ decide (y_1.snd.fst = y.fst) = matchD x.fst x.snd.fst) ∧
                                                                                      True) ∧
                                                                              (y_1.snd.snd.fst = !true → false = matchD x.fst x.snd.fst)) ∧
                                                                True) ∧
                                                      True)) ∧
                                        True)) ∧
                          True)) ∧
            True
theorem e18 : t18 = Con.vc c_host_Match GL (mkEnv ty [(7, conSem c_host_DNS), (33, conSem c_host_small), (9, conSem c_host_Wild), (28, conSem c_strings_Cut)] [] [] [0, 1, 4, 6, 7, 8, 12, 20]) {} Try.f18.ntmps Try.f18.results.toList (bodyOf Try.f18) := by kernel_rfl
theorem k18 : t18 := by
  unfold t18
  rintro ⟨l, m, _⟩ hx hp
  obtain ⟨h1, h2⟩ := hp
  simp only at h1 h2
  try dsimp +instances only [dft_int, dft_sl, dft_str]
  simp only [true_and, and_true, eq_self_iff_true, implies_true, reduceCtorEq, false_implies, true_implies, decide_eq_true_eq, decide_eq_false_iff_not, beq_self_eq_true, Bool.not_eq_true', ne_eq, Decidable.not_not, List.nil_append, List.length_singleton, List.length_cons, List.length_nil, Nat.zero_add, Nat.add_zero, Nat.mul_one, and_self, beq_iff_eq, Bool.not_true, Bool.not_false, Bool.not_eq_false', Bool.cond_false_right, Bool.and_eq_true, imp_self, Bool.not_eq_true, Bool.cond_true_left, Bool.or_eq_true]
  have hb : bs { data := #[46] } = [46] := by decide
  have hd : ([46] : List Int).getD 0 0 = 46 := rfl
  rw [hb, hd]
  refine ⟨h2, ?_⟩
  rintro ⟨a, _⟩ _ ea
  simp only at ea ⊢
  rw [matchD, ← ea]
  refine ⟨fun h => by rw [h]; rfl, fun h => ⟨h1, ?_⟩⟩
  rintro ⟨b, _⟩ _ eb
  simp only at eb ⊢
  rw [h, ← eb]
  refine ⟨fun h => ⟨h1, ?_⟩, fun h => ⟨h1, ?_⟩⟩
  · rintro ⟨c, _⟩ _ ec
    refine ⟨h2, ?_⟩
    rintro ⟨d, _⟩ _ ed
    simp only at ec ed ⊢
    rw [ec, ed, h]; rfl
  · rintro ⟨c, _⟩ _ ec
    simp only at ec ⊢
    rw [h, ← ec]
    refine ⟨fun h => by rw [h]; rfl, fun h => ⟨h2, ?_⟩⟩
    rintro ⟨d, _⟩ _ ed
    simp only at ed ⊢
    subst ed
    have hll := low_len m
    refine ⟨⟨by omega, rfl⟩, ?_⟩
    rintro ⟨u, v, w, _⟩ _ ⟨eu, ev, ew⟩
    simp only at eu ev ew ⊢
    rw [h, ← ev, ← ew]
    obtain ⟨r, rfl, _⟩ := wild_form (ec.symm.trans h)
    refine ⟨fun h => ⟨h, by decide, by simp; omega⟩, fun h => ⟨h, by simp at *; omega, ?_⟩, fun h => by rw [h]; rfl⟩
    rintro ⟨x, _⟩ _ ex
    simp only at ex ⊢
    rw [h, ex]
    exact ⟨rfl, rfl⟩
theorem h18 : c_host_Match.ok Try.prog GL 18 := con_ok (H := {}) (mkEnv_ok (gl := GL) (l := [(7, conSem c_host_DNS), (33, conSem c_host_small), (9, conSem c_host_Wild), (28, conSem c_strings_Cut)]) (q := []) (d := []) _ tyOk (by kernel_rfl) ⟨h7.call, h33.call, h9.call, h28.call, trivial⟩ trivial trivial) (by kernel_rfl) (by kernel_rfl) (Eq.mp e18 k18)

def t20 : Prop :=
  ∀ (x : List Int × List Int × Unit),
    Kd.wf Kd.str x.fst ∧ Kd.wf Kd.str x.snd.fst ∧ True →
      List.length x.fst ≤ (1000000000 : Nat) ∧ List.length x.snd.fst ≤ (1000000000 : Nat) →
        List.length x.snd.fst ≤ (1000000000 : Nat) ∧
          (∀ (y : Bool × Unit),
              Kd.wf Kd.bool y.fst ∧ True →
                y.fst = dnsD x.snd.fst →
                  ((!y.fst) = true → false = matchD x.fst x.snd.fst) ∧
                    ((!y.fst) = false →
                      List.length x.fst ≤ (1000000000 : Nat) ∧
                        (∀ (y : Bool × Unit),
                            Kd.wf Kd.bool y.fst ∧ True →
                              y.fst = dnsD x.fst →
                                (y.fst = true →
                                    List.length x.fst ≤ (1000000000 : Nat) ∧
                                      (∀ (y : List Int × Unit),
                                          Kd.wf Kd.str y.fst ∧ True →
                                            y.fst = lowD x.fst →
                                              List.length x.snd.fst ≤ (1000000000 : Nat) ∧
                                                (∀ (y_1 : List Int × Unit), Kd.wf Kd.str y_1.fst ∧ True → y_1.fst = lowD x.snd.fst → decide (y.fst = y_1.fst) = matchD x.fst x.snd.fst) ∧ True) ∧
                                        True) ∧
                                  (y.fst = false →
                                    List.length x.fst ≤ (1000000000 : Nat) ∧
                                      (∀ (y : Bool × Unit),
                                          Kd.wf Kd.bool y.fst ∧ True →
                                            y.fst = wildD x.fst →
                                              ((!y.fst) = true → false = matchD x.fst x.snd.fst) ∧
                                                ((!y.fst) = false →
                                                  List.length x.fst ≤ (1000000000 : Nat) ∧
                                                    (∀ (y : List Int × Unit),
                                                        Kd.wf Kd.str y.fst ∧ True →
                                                          y.fst = lowD x.fst →
                                                            List.length y.fst ≤ (1000000000 : Nat) ∧
                                                              (∀ (y_1 : List (List Int) × Unit),
                                                                  Kd.wf (Kd.sl Kd.str) y_1.fst ∧ True →
                                                                    y_1.fst = labelsD y.fst →
                                                                      List.length x.snd.fst ≤ (1000000000 : Nat) ∧
                                                                        (∀ (y : List Int × Unit),
                                                                            Kd.wf Kd.str y.fst ∧ True →
                                                                              y.fst = lowD x.snd.fst →
                                                                                List.length y.fst ≤ (1000000000 : Nat) ∧
                                                                                  (∀ (y_2 : List (List Int) × Unit),
                                                                                      Kd.wf (Kd.sl Kd.str) y_2.fst ∧ True →
                                                                                        y_2.fst = labelsD y.fst →
                                                                                          (decide ((↑(List.length y_1.fst) : Int) ≠ (↑(List.length y_2.fst) : Int)) = true →
                                                                                              false = matchD x.fst x.snd.fst) ∧
                                                                                            (decide ((↑(List.length y_1.fst) : Int) ≠ (↑(List.length y_2.fst) : Int)) = false →
                                                                                              ∃ (I : Int × Bool × Unit → Unit → Prop),
                                                                                                ∃ (μ : Int × Bool × Unit → Unit → Nat),
                                                                                                  (Value.bool false = Value.bool false ∧
                                                                                                      Value.bool false = Value.bool false ∧
                                                                                                        Value.bool false = Value.bool false ∧
                                                                                                          Value.bool false = Value.bool false ∧
                                                                                                            x.fst = x.fst ∧
                                                                                                              x.snd.fst = x.snd.fst ∧
                                                                                                                y_1.fst = y_1.fst ∧ y_2.fst = y_2.fst ∧ I ((1 : Int), false, ()) ()) ∧
                                                                                                    ∀ (y : Int × Bool × Unit) (z : Unit),
                                                                                                      Kd.wf (Kd.int IntKind.i64) y.fst ∧ Kd.wf Kd.bool y.snd.fst ∧ True →
                                                                                                        True →
                                                                                                          I y z →
                                                                                                            (decide (y.fst < (↑(List.length y_1.fst) : Int)) = true →
                                                                                                                ((0 : Int) ≤ y.fst ∧ y.fst < (↑(List.length y_1.fst) : Int)) ∧
                                                                                                                  ((0 : Int) ≤ y.fst ∧ y.fst < (↑(List.length y_2.fst) : Int)) ∧
                                                                                                                    (decide
                                                                                                                            (List.getD y_1.fst (Int.toNat y.fst) (Kd.dft Kd.str) ≠
                                                                                                                              List.getD y_2.fst (Int.toNat y.fst) (Kd.dft Kd.str)) =
                                                                                                                          true →
                                                                                                                        false = matchD x.fst x.snd.fst) ∧
                                                                                                                      (decide
                                                                                                                            (List.getD y_1.fst (Int.toNat y.fst) (Kd.dft Kd.str) ≠
                                                                                                                              List.getD y_2.fst (Int.toNat y.fst) (Kd.dft Kd.str)) =
                                                                                                                          false →
                                                                                                                        Value.bool false = Value.bool false ∧
                                                                                                                          Value.bool false = Value.bool false ∧
                                                                                                                            Value.bool false = Value.bool false ∧
                                                                                                                              Value.bool false = Value.bool false ∧
                                                                                                                                x.fst = x.fst ∧
                                                                                                                                  x.snd.fst = x.snd.fst ∧
                                                                                                                                    y_1.fst = y_1.fst ∧
                                                                                                                                      y_2.fst = y_2.fst ∧
                                                                                                                                        I (IntKind.wrap IntKind.i64 (y.fst + (1 : Int)), y.snd.fst, ())
                                                                                                                                            () ∧
                                                                                                                                          μ (IntKind.wrap IntKind.i64 (y.fst + (1 : Int)), y.snd.fst, ())
                                                                                                                                              () <
                                                                                                                                            μ y z)) ∧
                                                                                                              (decide (y.fst < (↑(List.length y_1.fst) : Int)) = false →
                                                                                                                true = matchD x.fst x.snd.fst))) ∧
                                                                                    True) ∧
                                                                          True) ∧
                                                                True) ∧
                                                      True)) ∧
                                        True)) ∧
                          True)) ∧
            True
theorem e20 : t20 = Con.vc c_r13_Match GL (mkEnv ty [(8, conSem c_r13_DNS), (34, conSem c_r13_Small), (10, conSem c_r13_Wild), (17, conSem c_r13_Labels)] [] [] [0, 1, 4, 5, 6, 7, 10, 12, 20, 31, 35, 46]) {} Try.f20.ntmps Try.f20.results.toList (bodyOf Try.f20) := by kernel_rfl
theorem k20 : t20 := by
  unfold t20
  rintro ⟨l, m, _⟩ hx hp
  obtain ⟨h1, h2⟩ := hp
  simp only at h1 h2
  try dsimp +instances only [dft_int, dft_sl, dft_str]
  simp only [true_and, and_true, eq_self_iff_true, implies_true, reduceCtorEq, false_implies, true_implies, decide_eq_true_eq, decide_eq_false_iff_not, beq_self_eq_true, Bool.not_eq_true', ne_eq, Decidable.not_not, List.nil_append, List.length_singleton, List.length_cons, List.length_nil, Nat.zero_add, Nat.add_zero, Nat.mul_one, and_self, beq_iff_eq, Bool.not_true, Bool.not_false, Bool.not_eq_false', Bool.cond_false_right, Bool.and_eq_true, imp_self, Bool.not_eq_true, Bool.cond_true_left, Bool.or_eq_true]
  refine ⟨h2, ?_⟩
  rintro ⟨a, _⟩ _ ea
  simp only at ea ⊢
  have hM : matchD l m = (dnsD m && (if dnsD l then decide (lowD l = lowD m) else wildD l && ((cutD 46 (lowD m)).2.2 && decide ((cutD 46 (lowD m)).2.1 = lowD (l.drop 2))))) := rfl
  rw [← ea] at hM
  refine ⟨fun h => by rw [hM, h]; rfl, fun h => ⟨h1, ?_⟩⟩
  rw [h] at hM
  rintro ⟨b, _⟩ _ eb
  simp only at eb ⊢
  rw [← eb] at hM
  refine ⟨fun h => ⟨h1, ?_⟩, fun h => ⟨h1, ?_⟩⟩
  · rw [h] at hM
    rintro ⟨c, _⟩ _ ec
    refine ⟨h2, ?_⟩
    rintro ⟨d, _⟩ _ ed
    simp only at ec ed ⊢
    rw [ec, ed, hM]; rfl
  · rw [h] at hM
    rintro ⟨c, _⟩ _ ec
    simp only at ec ⊢
    rw [← ec] at hM
    refine ⟨fun h => by rw [hM, h]; rfl, fun h => ⟨h1, ?_⟩⟩
    rw [h] at hM
    have hdoc := match_doc (s := m) (ec.symm.trans h)
    have hM : matchD l m = ((cutD 46 (lowD m)).2.2 && decide ((cutD 46 (lowD m)).2.1 = lowD (l.drop 2))) := hM
    rw [← hM] at hdoc
    rintro ⟨d, _⟩ _ ed
    simp only at ed ⊢
    have hll := low_len l
    have hlm := low_len m
    refine ⟨by rw [ed]; omega, ?_⟩
    rintro ⟨V, _⟩ _ eV
    refine ⟨h2, ?_⟩
    rintro ⟨e, _⟩ _ ee
    simp only at ee eV ⊢
    refine ⟨by rw [ee]; omega, ?_⟩
    rintro ⟨W, _⟩ _ eW
    simp only at eW ⊢
    rw [ed] at eV
    rw [ee] at eW
    rw [← eV, ← eW] at hdoc
    have hVl := labels_len (lowD l)
    rw [← eV] at hVl
    have hno : ¬ (V.length = W.length ∧ V.drop 1 = W.drop 1) → false = matchD l m := fun hn => by
      cases hmm : matchD l m with
      | false => rfl
      | true => exact absurd (hdoc.2 hmm) hn
    refine ⟨fun h => hno (fun hh => h (by rw [hh.1])), fun h => ?_⟩
    have hlen : V.length = W.length := by omega
    refine ⟨fun y _ => 1 ≤ y.1 ∧ y.1 ≤ V.length ∧ ∀ j, 1 ≤ j → j < y.1.toNat → V.getD j [] = W.getD j [], fun y _ => ((V.length : Int) - y.1).toNat, ⟨by decide, by simp only; omega, fun j hj hj2 => by simp at hj2; omega⟩, ?_⟩
    rintro ⟨i, b2, _⟩ z _ ⟨i0, i1, i2⟩
    simp only at i0 i1 i2 ⊢
    have hw1 : IntKind.wrap .i64 (i + 1) = i + 1 := wrapK _ (by omega) (by omega)
    rw [hw1]
    refine ⟨fun hlt => ⟨⟨by omega, hlt⟩, ⟨by omega, by omega⟩, fun hne => hno (fun hh => hne ?_), fun he => ⟨⟨by omega, by omega, fun j hj hj2 => ?_⟩, by omega⟩⟩, fun hge => (hdoc.1 ⟨hlen, ?_⟩).symm⟩
    · have := congrArg (fun x => x.getD (i.toNat - 1) []) hh.2
      simp only [List.getD_eq_getElem?_getD, List.getElem?_drop] at this ⊢
      rw [show 1 + (i.toNat - 1) = i.toNat by omega] at this
      exact this
    · by_cases hji : j < i.toNat
      · exact i2 j hj hji
      · rw [show j = i.toNat by omega]; exact he
    · apply List.ext_getElem?
      intro j
      rw [List.getElem?_drop, List.getElem?_drop]
      by_cases hj : 1 + j < V.length
      · have := i2 (1 + j) (by omega) (by omega)
        rw [List.getD_eq_getElem?_getD, List.getD_eq_getElem?_getD, List.getElem?_eq_getElem hj, List.getElem?_eq_getElem (by omega)] at this
        rw [List.getElem?_eq_getElem hj, List.getElem?_eq_getElem (by omega)]
        exact congrArg some this
      · rw [List.getElem?_eq_none (by omega), List.getElem?_eq_none (by omega)]
theorem h20 : c_r13_Match.ok Try.prog GL 20 := con_ok (H := {}) (mkEnv_ok (gl := GL) (l := [(8, conSem c_r13_DNS), (34, conSem c_r13_Small), (10, conSem c_r13_Wild), (17, conSem c_r13_Labels)]) (q := []) (d := []) _ tyOk (by kernel_rfl) ⟨h8.call, h34.call, h10.call, h17.call, trivial⟩ trivial trivial) (by kernel_rfl) (by kernel_rfl) (Eq.mp e20 k20)

end Go.Proofs.Ytlpbhgcndebkcaa
