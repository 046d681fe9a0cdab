/- Walks. -/
import Derived.Test.YtcaekpbmmbfeiaaDoorZW05
set_option linter.unusedVariables false
set_option linter.unusedSimpArgs false
namespace Go.Proofs.YtcaekpbmmbfeiaaDoor
open Go Go.Vc Go.Pl Go.Proofs
set_option linter.unusedVariables false
set_option linter.unusedSimpArgs false
def t70 : Prop :=
  ∀ (x : List Int × Unit), Kd.wf (Kd.sl (Kd.int IntKind.i64)) x.fst ∧ True → True → (decide ((↑(List.length x.fst) : Int) < (2 : Int)) = false → True) ∧ (decide ((↑(List.length x.fst) : Int)
  < (2 : Int)) = false → (decide ((↑(List.length x.fst) : Int) < (2 : Int)) == false) = true ∧ True) ∧ (decide ((↑(List.length x.fst) : Int) < (2 : Int)) = false → (decide ((↑(List.length
  x.fst) : Int) < (2 : Int)) == false) = true ∧ True) ∧ (decide ((↑(List.length x.fst) : Int) < (2 : Int)) = false → (decide ((↑(List.length x.fst) : Int) < (2 : Int)) == false) = true) ∧
  ((bif decide ((↑(List.length x.fst) : Int) < (2 : Int)) then true else decide ((20 : Int) < (↑(List.length x.fst) : Int))) = true → false = mayO x.fst) ∧ ((bif decide ((↑(List.length x.fst)
  : Int) < (2 : Int)) then true else decide ((20 : Int) < (↑(List.length x.fst) : Int))) = false → ∃ (I : Int × Bool × Unit → Unit → Prop), ∃ (μ : Int × Bool × Unit → Unit → Nat),
  ((↑(List.length x.fst) : Int) = (↑(List.length x.fst) : Int) ∧ x.fst = x.fst ∧ Value.bool false = Value.bool false ∧ x.fst = x.fst ∧ I ((0 : Int), false, ()) ()) ∧ ∀ (y : Int × Bool × Unit)
  (z : Unit), Kd.wf (Kd.int IntKind.i64) y.fst ∧ Kd.wf Kd.bool y.snd.fst ∧ True → True → I y z → (decide (y.fst < (↑(List.length x.fst) : Int)) = true → ((0 : Int) ≤ y.fst ∧ y.fst <
  (↑(List.length x.fst) : Int)) ∧ (decide (List.getD x.fst (Int.toNat y.fst) (Kd.dft (Kd.int IntKind.i64)) < (0 : Int)) = false → True) ∧ (decide (List.getD x.fst (Int.toNat y.fst) (Kd.dft
  (Kd.int IntKind.i64)) < (0 : Int)) = false → (decide (List.getD x.fst (Int.toNat y.fst) (Kd.dft (Kd.int IntKind.i64)) < (0 : Int)) == false) = true ∧ True) ∧ (decide (List.getD x.fst
  (Int.toNat y.fst) (Kd.dft (Kd.int IntKind.i64)) < (0 : Int)) = false → (decide (List.getD x.fst (Int.toNat y.fst) (Kd.dft (Kd.int IntKind.i64)) < (0 : Int)) == false) = true) ∧ ((bif decide
  (List.getD x.fst (Int.toNat y.fst) (Kd.dft (Kd.int IntKind.i64)) < (0 : Int)) then true else decide ((2147483647 : Int) < List.getD x.fst (Int.toNat y.fst) (Kd.dft (Kd.int IntKind.i64)))) =
  true → false = mayO x.fst) ∧ ((bif decide (List.getD x.fst (Int.toNat y.fst) (Kd.dft (Kd.int IntKind.i64)) < (0 : Int)) then true else decide ((2147483647 : Int) < List.getD x.fst
  (Int.toNat y.fst) (Kd.dft (Kd.int IntKind.i64)))) = false → (↑(List.length x.fst) : Int) = (↑(List.length x.fst) : Int) ∧ x.fst = x.fst ∧ Value.bool false = Value.bool false ∧ x.fst = x.fst
  ∧ I (IntKind.wrap IntKind.i64 (y.fst + (1 : Int)), y.snd.fst, ()) () ∧ μ (IntKind.wrap IntKind.i64 (y.fst + (1 : Int)), y.snd.fst, ()) () < μ y z)) ∧ (decide (y.fst < (↑(List.length x.fst)
  : Int)) = false → ((0 : Int) ≤ (0 : Int) ∧ (0 : Int) < (↑(List.length x.fst) : Int)) ∧ (decide (List.getD x.fst (0 : Nat) (Kd.dft (Kd.int IntKind.i64)) = (0 : Int)) = true → ((0 : Int) ≤ (1
  : Int) ∧ (1 : Int) < (↑(List.length x.fst) : Int)) ∧ decide (List.getD x.fst (1 : Nat) (Kd.dft (Kd.int IntKind.i64)) < (40 : Int)) = mayO x.fst) ∧ (decide (List.getD x.fst (0 : Nat) (Kd.dft
  (Kd.int IntKind.i64)) = (0 : Int)) = false → (decide (List.getD x.fst (0 : Nat) (Kd.dft (Kd.int IntKind.i64)) = (1 : Int)) = true → ((0 : Int) ≤ (1 : Int) ∧ (1 : Int) < (↑(List.length
  x.fst) : Int)) ∧ decide (List.getD x.fst (1 : Nat) (Kd.dft (Kd.int IntKind.i64)) < (40 : Int)) = mayO x.fst) ∧ (decide (List.getD x.fst (0 : Nat) (Kd.dft (Kd.int IntKind.i64)) = (1 : Int))
  = false → (decide (List.getD x.fst (0 : Nat) (Kd.dft (Kd.int IntKind.i64)) = (2 : Int)) = true → ((0 : Int) ≤ (1 : Int) ∧ (1 : Int) < (↑(List.length x.fst) : Int)) ∧ decide (List.getD x.fst
  (1 : Nat) (Kd.dft (Kd.int IntKind.i64)) ≤ (2147483567 : Int)) = mayO x.fst) ∧ (decide (List.getD x.fst (0 : Nat) (Kd.dft (Kd.int IntKind.i64)) = (2 : Int)) = false → false = mayO x.fst)))))
theorem e70 : t70 = Con.vc c_oid_May GL (mkEnv ty [] [] [] [0, 2, 4, 12, 13, 14, 15, 16, 24, 28, 29, 36]) {} Tryd.f70.ntmps Tryd.f70.results.toList (bodyOf Tryd.f70) := by kernel_rfl
theorem k70 : t70 := by
  unfold t70
  rintro ⟨l, _⟩ hx hp
  try dsimp +instances only [dft_int, dft_sl, dft_str]
  simp only [true_and, and_true, eq_self_iff_true, implies_true, reduceCtorEq, false_implies, true_implies, decide_eq_true_eq, decide_eq_false_iff_not, beq_self_eq_true, Bool.not_eq_true', ne_eq, Decidable.not_not, List.nil_append, List.length_singleton, List.length_cons, List.length_nil, Nat.zero_add, Nat.add_zero, Nat.mul_one, and_self, beq_iff_eq, Bool.not_true, Bool.not_false, Bool.not_eq_false', Bool.cond_false_right, Bool.and_eq_true, imp_self, Bool.not_eq_true, Bool.cond_true_left, Bool.or_eq_true]
  refine ⟨fun h => (may_len h).symm, fun h => ?_⟩
  simp only [Bool.or_eq_false_iff, decide_eq_false_iff_not] at h
  refine ⟨fun y _ => 0 ≤ y.1 ∧ y.1 ≤ l.length ∧ ∀ j, j < y.1.toNat → 0 ≤ l.getD j 0 ∧ l.getD j 0 ≤ 2147483647, fun y _ => ((l.length : Int) - y.1).toNat, ⟨Int.le_refl 0, by simp only; omega, fun j hj => by simp at hj⟩, ?_⟩
  rintro ⟨i, b, _⟩ _ _ ⟨i0, i1, i2⟩
  simp only at i0 i1 i2 ⊢
  have hw1 : IntKind.wrap .i64 (i + 1) = i + 1 := wrapK _ (by omega) (by omega)
  rw [hw1]
  refine ⟨fun hlt => ⟨⟨i0, hlt⟩, fun hb => (may_in (by omega) hb).symm, fun hg => ⟨⟨by omega, by omega, fun j hj => ?_⟩, by omega⟩⟩, fun hge => ?_⟩
  · simp only [Bool.or_eq_false_iff, decide_eq_false_iff_not] at hg
    by_cases hji : j < i.toNat
    · exact i2 j hji
    · rw [show j = i.toNat by omega]; omega
  · have hr := may_rest (l := l) (by omega) (by omega) (fun j hj => i2 j (by omega))
    have h0 := i2 0 (by omega)
    rw [hr]
    refine ⟨⟨by omega, by omega⟩, fun e => ⟨⟨by omega, by omega⟩, by rw [if_pos (by omega)]⟩, fun e0 => ⟨fun e => ⟨⟨by omega, by omega⟩, by rw [if_pos (by omega)]⟩, fun e1 => ⟨fun e => ⟨⟨by omega, by omega⟩, by rw [if_neg (by omega), if_pos e]⟩, fun e2 => by rw [if_neg (by omega), if_neg e2]⟩⟩⟩
theorem h70 : c_oid_May.ok Tryd.prog GL 70 := con_ok (H := {}) (mkEnv_ok (gl := GL) (l := []) (q := []) (d := []) _ tyOk (by kernel_rfl) trivial trivial trivial) (by kernel_rfl) (by kernel_rfl) (Eq.mp e70 k70)

def t73 : Prop :=
  ∀ (x : List Int × Unit), Kd.wf (Kd.sl (Kd.int IntKind.i64)) x.fst ∧ True → True → (decide ((↑(List.length x.fst) : Int) < (2 : Int)) = false → True) ∧ (decide ((↑(List.length x.fst) : Int)
  < (2 : Int)) = false → (decide ((↑(List.length x.fst) : Int) < (2 : Int)) == false) = true ∧ True) ∧ (decide ((↑(List.length x.fst) : Int) < (2 : Int)) = false → (decide ((↑(List.length
  x.fst) : Int) < (2 : Int)) == false) = true ∧ True) ∧ (decide ((↑(List.length x.fst) : Int) < (2 : Int)) = false → (decide ((↑(List.length x.fst) : Int) < (2 : Int)) == false) = true) ∧
  ((bif decide ((↑(List.length x.fst) : Int) < (2 : Int)) then true else decide ((20 : Int) < (↑(List.length x.fst) : Int))) = true → false = mayO x.fst) ∧ ((bif decide ((↑(List.length x.fst)
  : Int) < (2 : Int)) then true else decide ((20 : Int) < (↑(List.length x.fst) : Int))) = false → ∃ (I : Int × Bool × Unit → Unit → Prop), ∃ (μ : Int × Bool × Unit → Unit → Nat), (Value.bool
  false = Value.bool false ∧ x.fst = x.fst ∧ I ((0 : Int), false, ()) ()) ∧ ∀ (y : Int × Bool × Unit) (z : Unit), Kd.wf (Kd.int IntKind.i64) y.fst ∧ Kd.wf Kd.bool y.snd.fst ∧ True → True → I
  y z → (decide (y.fst < (↑(List.length x.fst) : Int)) = true → ((0 : Int) ≤ y.fst ∧ y.fst < (↑(List.length x.fst) : Int)) ∧ (decide (List.getD x.fst (Int.toNat y.fst) (Kd.dft (Kd.int
  IntKind.i64)) < (0 : Int)) = false → True) ∧ (decide (List.getD x.fst (Int.toNat y.fst) (Kd.dft (Kd.int IntKind.i64)) < (0 : Int)) = false → True) ∧ (decide (List.getD x.fst (Int.toNat
  y.fst) (Kd.dft (Kd.int IntKind.i64)) < (0 : Int)) = false → (decide (List.getD x.fst (Int.toNat y.fst) (Kd.dft (Kd.int IntKind.i64)) < (0 : Int)) == false) = true ∧ (decide (List.getD x.fst
  (Int.toNat y.fst) (Kd.dft (Kd.int IntKind.i64)) < (0 : Int)) == false) = true ∧ ((0 : Int) ≤ y.fst ∧ y.fst < (↑(List.length x.fst) : Int)) ∧ True) ∧ (decide (List.getD x.fst (Int.toNat
  y.fst) (Kd.dft (Kd.int IntKind.i64)) < (0 : Int)) = false → (decide (List.getD x.fst (Int.toNat y.fst) (Kd.dft (Kd.int IntKind.i64)) < (0 : Int)) == false) = true ∧ True) ∧ (decide
  (List.getD x.fst (Int.toNat y.fst) (Kd.dft (Kd.int IntKind.i64)) < (0 : Int)) = false → (decide (List.getD x.fst (Int.toNat y.fst) (Kd.dft (Kd.int IntKind.i64)) < (0 : Int)) == false) =
  true ∧ True) ∧ (decide (List.getD x.fst (Int.toNat y.fst) (Kd.dft (Kd.int IntKind.i64)) < (0 : Int)) = false → (decide (List.getD x.fst (Int.toNat y.fst) (Kd.dft (Kd.int IntKind.i64)) < (0
  : Int)) == false) = true) ∧ ((bif decide (List.getD x.fst (Int.toNat y.fst) (Kd.dft (Kd.int IntKind.i64)) < (0 : Int)) then true else decide ((2147483647 : Int) < List.getD x.fst (Int.toNat
  y.fst) (Kd.dft (Kd.int IntKind.i64)))) = true → false = mayO x.fst) ∧ ((bif decide (List.getD x.fst (Int.toNat y.fst) (Kd.dft (Kd.int IntKind.i64)) < (0 : Int)) then true else decide
  ((2147483647 : Int) < List.getD x.fst (Int.toNat y.fst) (Kd.dft (Kd.int IntKind.i64)))) = false → Value.bool false = Value.bool false ∧ x.fst = x.fst ∧ I (IntKind.wrap IntKind.i64 (y.fst +
  (1 : Int)), y.snd.fst, ()) () ∧ μ (IntKind.wrap IntKind.i64 (y.fst + (1 : Int)), y.snd.fst, ()) () < μ y z)) ∧ (decide (y.fst < (↑(List.length x.fst) : Int)) = false → ((0 : Int) ≤ (0 :
  Int) ∧ (0 : Int) < (↑(List.length x.fst) : Int)) ∧ (decide ((2 : Int) < List.getD x.fst (0 : Nat) (Kd.dft (Kd.int IntKind.i64))) = true → false = mayO x.fst) ∧ (decide ((2 : Int) <
  List.getD x.fst (0 : Nat) (Kd.dft (Kd.int IntKind.i64))) = false → ((0 : Int) ≤ (0 : Int) ∧ (0 : Int) < (↑(List.length x.fst) : Int)) ∧ (decide (List.getD x.fst (0 : Nat) (Kd.dft (Kd.int
  IntKind.i64)) < (2 : Int)) = true → ((0 : Int) ≤ (1 : Int) ∧ (1 : Int) < (↑(List.length x.fst) : Int)) ∧ decide (List.getD x.fst (1 : Nat) (Kd.dft (Kd.int IntKind.i64)) ≤ (39 : Int)) = mayO
  x.fst) ∧ (decide (List.getD x.fst (0 : Nat) (Kd.dft (Kd.int IntKind.i64)) < (2 : Int)) = false → ((0 : Int) ≤ (1 : Int) ∧ (1 : Int) < (↑(List.length x.fst) : Int)) ∧ decide (List.getD x.fst
  (1 : Nat) (Kd.dft (Kd.int IntKind.i64)) ≤ (2147483567 : Int)) = mayO x.fst))))
theorem e73 : t73 = Con.vc c_r03_May GL (mkEnv ty [] [] [] [0, 2, 3, 11, 15, 29, 33, 37]) {} Tryd.f73.ntmps Tryd.f73.results.toList (bodyOf Tryd.f73) := by kernel_rfl
theorem k73 : t73 := by
  unfold t73
  rintro ⟨l, _⟩ hx hp
  try dsimp +instances only [dft_int, dft_sl, dft_str]
  simp only [true_and, and_true, eq_self_iff_true, implies_true, reduceCtorEq, false_implies, true_implies, decide_eq_true_eq, decide_eq_false_iff_not, beq_self_eq_true, Bool.not_eq_true', ne_eq, Decidable.not_not, List.nil_append, List.length_singleton, List.length_cons, List.length_nil, Nat.zero_add, Nat.add_zero, Nat.mul_one, and_self, beq_iff_eq, Bool.not_true, Bool.not_false, Bool.not_eq_false', Bool.cond_false_right, Bool.and_eq_true, imp_self, Bool.not_eq_true, Bool.cond_true_left, Bool.or_eq_true]
  refine ⟨fun h => (may_len h).symm, fun h => ?_⟩
  simp only [Bool.or_eq_false_iff, decide_eq_false_iff_not] at h
  refine ⟨fun y _ => 0 ≤ y.1 ∧ y.1 ≤ l.length ∧ ∀ j, j < y.1.toNat → 0 ≤ l.getD j 0 ∧ l.getD j 0 ≤ 2147483647, fun y _ => ((l.length : Int) - y.1).toNat, ⟨Int.le_refl 0, by simp only; omega, fun j hj => by simp at hj⟩, ?_⟩
  rintro ⟨i, b, _⟩ _ _ ⟨i0, i1, i2⟩
  simp only at i0 i1 i2 ⊢
  have hw1 : IntKind.wrap .i64 (i + 1) = i + 1 := wrapK _ (by omega) (by omega)
  rw [hw1]
  refine ⟨fun hlt => ⟨⟨i0, hlt⟩, fun hn => ⟨hn, hn, i0, hlt⟩, fun hb => (may_in (by omega) hb).symm, fun hg => ⟨⟨by omega, by omega, fun j hj => ?_⟩, by omega⟩⟩, fun hge => ?_⟩
  · simp only [Bool.or_eq_false_iff, decide_eq_false_iff_not] at hg
    by_cases hji : j < i.toNat
    · exact i2 j hji
    · rw [show j = i.toNat by omega]; omega
  · have hr := may_rest (l := l) (by omega) (by omega) (fun j hj => i2 j (by omega))
    have h0 := i2 0 (by omega)
    rw [hr]
    refine ⟨⟨by omega, by omega⟩, fun e => by rw [if_neg (by omega), if_neg (by omega)], fun e0 => ⟨⟨by omega, by omega⟩, fun e => ⟨⟨by omega, by omega⟩, by rw [if_pos (by omega)]; exact decide_eq_decide.2 (by omega)⟩, fun e1 => ⟨⟨by omega, by omega⟩, by rw [if_neg (by omega), if_pos (by omega)]⟩⟩⟩
theorem h73 : c_r03_May.ok Tryd.prog GL 73 := con_ok (H := {}) (mkEnv_ok (gl := GL) (l := []) (q := []) (d := []) _ tyOk (by kernel_rfl) trivial trivial trivial) (by kernel_rfl) (by kernel_rfl) (Eq.mp e73 k73)

def t71 : Prop :=
  ∀ (x : List Int × Int × Unit), Kd.wf (Kd.sl (Kd.int IntKind.u8)) x.fst ∧ Kd.wf (Kd.int IntKind.i64) x.snd.fst ∧ True → lenI x.fst ≤ (1000 : Nat) ∧ (0 : Int) ≤ x.snd.fst ∧ x.snd.fst ≤
  (2147483647 : Int) → ∃ (I : Int × Unit → Unit → Prop), ∃ (μ : Int × Unit → Unit → Nat), (Value.slice none (0 : Nat) (0 : Nat) = Value.slice none (0 : Nat) (0 : Nat) ∧ x.snd.fst = x.snd.fst
  ∧ x.fst = x.fst ∧ I ((0 : Int), ()) ()) ∧ ∀ (y : Int × Unit) (z : Unit), Kd.wf (Kd.int IntKind.i64) y.fst ∧ True → True → I y z → (0 : Int) ≤ y.fst ∧ (decide ((127 : Int) < Int.fdiv
  x.snd.fst ((2 : Int) ^ min (Int.toNat y.fst) (64 : Nat))) = true → Value.slice none (0 : Nat) (0 : Nat) = Value.slice none (0 : Nat) (0 : Nat) ∧ x.snd.fst = x.snd.fst ∧ x.fst = x.fst ∧ I
  (IntKind.wrap IntKind.i64 (y.fst + (7 : Int)), ()) () ∧ μ (IntKind.wrap IntKind.i64 (y.fst + (7 : Int)), ()) () < μ y z) ∧ (decide ((127 : Int) < Int.fdiv x.snd.fst ((2 : Int) ^ min
  (Int.toNat y.fst) (64 : Nat))) = false → ∃ (I : Int × Unit → List Int × Unit → Prop), ∃ (μ : Int × Unit → List Int × Unit → Nat), (Value.bool false = Value.bool false ∧ Value.slice none (0
  : Nat) (0 : Nat) = Value.slice none (0 : Nat) (0 : Nat) ∧ x.snd.fst = x.snd.fst ∧ I (y.fst, ()) (x.fst, ())) ∧ ∀ (y : Int × Unit) (z : List Int × Unit), Kd.wf (Kd.int IntKind.i64) y.fst ∧
  True → Kd.wf (Kd.sl (Kd.int IntKind.u8)) z.fst ∧ True → I y z → (decide ((0 : Int) < y.fst) = true → (0 : Int) ≤ y.fst ∧ (0 : Nat) < (1 : Nat) ∧ (List.length z.fst + List.length
  [IntKind.wrap IntKind.u8 (↑(BitVec.toNat (BitVec.ofInt (8 : Nat) (IntKind.wrap IntKind.u8 (Int.fdiv x.snd.fst ((2 : Int) ^ min (Int.toNat y.fst) (64 : Nat)))) ||| BitVec.ofInt (8 : Nat)
  (128 : Int))) : Int)]) * (1 : Nat) ≤ (140737488355328 : Nat) ∧ List.length z.fst + List.length [IntKind.wrap IntKind.u8 (↑(BitVec.toNat (BitVec.ofInt (8 : Nat) (IntKind.wrap IntKind.u8
  (Int.fdiv x.snd.fst ((2 : Int) ^ min (Int.toNat y.fst) (64 : Nat)))) ||| BitVec.ofInt (8 : Nat) (128 : Int))) : Int)] ≤ (9223372036854775807 : Nat) ∧ Value.bool false = Value.bool false ∧
  Value.slice none (0 : Nat) (0 : Nat) = Value.slice none (0 : Nat) (0 : Nat) ∧ x.snd.fst = x.snd.fst ∧ I (IntKind.wrap IntKind.i64 (y.fst - (7 : Int)), ()) (z.fst ++ [IntKind.wrap IntKind.u8
  (↑(BitVec.toNat (BitVec.ofInt (8 : Nat) (IntKind.wrap IntKind.u8 (Int.fdiv x.snd.fst ((2 : Int) ^ min (Int.toNat y.fst) (64 : Nat)))) ||| BitVec.ofInt (8 : Nat) (128 : Int))) : Int)], ()) ∧
  μ (IntKind.wrap IntKind.i64 (y.fst - (7 : Int)), ()) (z.fst ++ [IntKind.wrap IntKind.u8 (↑(BitVec.toNat (BitVec.ofInt (8 : Nat) (IntKind.wrap IntKind.u8 (Int.fdiv x.snd.fst ((2 : Int) ^ min
  (Int.toNat y.fst) (64 : Nat)))) ||| BitVec.ofInt (8 : Nat) (128 : Int))) : Int)], ()) < μ y z) ∧ (decide ((0 : Int) < y.fst) = false → (0 : Nat) < (1 : Nat) ∧ (List.length z.fst +
  List.length [IntKind.wrap IntKind.u8 (↑(BitVec.toNat (BitVec.ofInt (8 : Nat) (IntKind.wrap IntKind.u8 x.snd.fst) &&& BitVec.ofInt (8 : Nat) (127 : Int))) : Int)]) * (1 : Nat) ≤
  (140737488355328 : Nat) ∧ List.length z.fst + List.length [IntKind.wrap IntKind.u8 (↑(BitVec.toNat (BitVec.ofInt (8 : Nat) (IntKind.wrap IntKind.u8 x.snd.fst) &&& BitVec.ofInt (8 : Nat)
  (127 : Int))) : Int)] ≤ (9223372036854775807 : Nat) ∧ z.fst ++ [IntKind.wrap IntKind.u8 (↑(BitVec.toNat (BitVec.ofInt (8 : Nat) (IntKind.wrap IntKind.u8 x.snd.fst) &&& BitVec.ofInt (8 :
  Nat) (127 : Int))) : Int)] = x.fst ++ numO x.snd.fst))
theorem e71 : t71 = Con.vc c_oid_number GL (mkEnv ty [] [] [] [0, 1, 4, 5, 9, 13]) {} Tryd.f71.ntmps Tryd.f71.results.toList (bodyOf Tryd.f71) := by kernel_rfl
theorem k71 : t71 := by
  unfold t71
  rintro ⟨b, n, _⟩ hx hp
  obtain ⟨p0, p1, p2⟩ := hp
  simp only at p0 p1 p2
  have p0 : b.length ≤ 1000 := p0
  have h4 := small4 p2
  try dsimp +instances only [dft_int, dft_sl, dft_str]
  simp only [true_and, and_true, eq_self_iff_true, implies_true, reduceCtorEq, false_implies, true_implies, decide_eq_true_eq, decide_eq_false_iff_not, beq_self_eq_true, Bool.not_eq_true', ne_eq, Decidable.not_not, List.nil_append, List.length_singleton, List.length_cons, List.length_nil, Nat.zero_add, Nat.add_zero, Nat.mul_one, and_self, beq_iff_eq, Bool.not_true, Bool.not_false, Bool.not_eq_false', Bool.cond_false_right, Bool.and_eq_true, imp_self, Bool.not_eq_true, Bool.cond_true_left, Bool.or_eq_true]
  refine ⟨fun y _ => ∃ k : Nat, k ≤ 4 ∧ y.1 = 7 * (k : Int) ∧ (0 < k → 0 < n / 128 ^ k), fun y _ => (28 - y.1).toNat, ⟨0, by omega, rfl, fun h => absurd h (by omega)⟩, ?_⟩
  rintro ⟨y, _⟩ _ _ ⟨k, k4, rfl, hk⟩
  simp only
  rw [shift_div n k p1 k4]
  refine ⟨by omega, fun hlt => ?_, fun hge => ?_⟩
  · have : k < 4 := by
      rcases Nat.lt_or_ge k 4 with h | h
      · exact h
      · rw [show k = 4 by omega] at hlt; omega
    rw [show IntKind.wrap .i64 (7 * (k : Int) + 7) = 7 * ((k + 1 : Nat) : Int) by rw [wrapK _ (by omega) (by omega)]; omega]
    refine ⟨⟨k + 1, by omega, rfl, fun _ => ?_⟩, by omega⟩
    rw [pow_div n k k4]
    omega
  · have hN : hiN n = k := hi_is p1 k4 (by omega) hk
    refine ⟨fun y z => ∃ j : Nat, j ≤ k ∧ y.1 = 7 * (j : Int) ∧ z.1 ++ hiD j n = b ++ hiD k n, fun y _ => y.1.toNat, ⟨k, Nat.le_refl k, rfl, rfl⟩, ?_⟩
    rintro ⟨y, _⟩ ⟨z, _⟩ _ _ ⟨j, jk, rfl, hz⟩
    simp only at hz ⊢
    have hl : z.length + j = b.length + k := by
      have := congrArg List.length hz
      rwa [List.length_append, List.length_append, hi_length, hi_length] at this
    refine ⟨fun hj => ?_, fun hj => ?_⟩
    · obtain ⟨i, rfl⟩ : ∃ i, j = i + 1 := ⟨j - 1, by omega⟩
      rw [shift_div n (i + 1) p1 (by omega), or128, show IntKind.wrap .i64 (7 * ((i + 1 : Nat) : Int) - 7) = 7 * (i : Int) by rw [wrapK _ (by omega) (by omega)]; omega]
      refine ⟨by omega, by decide, by omega, by omega, ⟨i, by omega, rfl, ?_⟩, by omega⟩
      rw [List.append_assoc]
      exact hz
    · have : j = 0 := by omega
      subst this
      rw [and127]
      refine ⟨by decide, by omega, by omega, ?_⟩
      rw [numO, hN, ← List.append_assoc, ← hz]
      simp [hiD]
theorem h71 : c_oid_number.ok Tryd.prog GL 71 := con_ok (H := {}) (mkEnv_ok (gl := GL) (l := []) (q := []) (d := []) _ tyOk (by kernel_rfl) trivial trivial trivial) (by kernel_rfl) (by kernel_rfl) (Eq.mp e71 k71)

def t74 : Prop :=
  ∀ (x : Int × Unit), Kd.wf (Kd.int IntKind.i64) x.fst ∧ True → (0 : Int) ≤ x.fst ∧ x.fst ≤ (2147483647 : Int) → (128 : Int) ≠ (0 : Int) ∧ (128 : Int) ≠ (0 : Int) ∧ ∃ (I : Int × Unit → List
  Int × Unit → Prop), ∃ (μ : Int × Unit → List Int × Unit → Nat), (Value.slice none (0 : Nat) (0 : Nat) = Value.slice none (0 : Nat) (0 : Nat) ∧ I (IntKind.wrap IntKind.i64 (Int.tdiv x.fst
  (128 : Int)), ()) ([IntKind.wrap IntKind.u8 (Int.tmod x.fst (128 : Int))], ())) ∧ ∀ (y : Int × Unit) (z : List Int × Unit), Kd.wf (Kd.int IntKind.i64) y.fst ∧ True → Kd.wf (Kd.sl (Kd.int
  IntKind.u8)) z.fst ∧ True → I y z → (decide ((0 : Int) < y.fst) = true → (128 : Int) ≠ (0 : Int) ∧ (0 : Nat) < (1 : Nat) ∧ (List.length [IntKind.wrap IntKind.u8 (IntKind.wrap IntKind.i64
  ((128 : Int) + Int.tmod y.fst (128 : Int)))] + List.length z.fst) * (1 : Nat) ≤ (140737488355328 : Nat) ∧ List.length [IntKind.wrap IntKind.u8 (IntKind.wrap IntKind.i64 ((128 : Int) +
  Int.tmod y.fst (128 : Int)))] + List.length z.fst ≤ (9223372036854775807 : Nat) ∧ (128 : Int) ≠ (0 : Int) ∧ Value.slice none (0 : Nat) (0 : Nat) = Value.slice none (0 : Nat) (0 : Nat) ∧ I
  (IntKind.wrap IntKind.i64 (Int.tdiv y.fst (128 : Int)), ()) ([IntKind.wrap IntKind.u8 (IntKind.wrap IntKind.i64 ((128 : Int) + Int.tmod y.fst (128 : Int)))] ++ z.fst, ()) ∧ μ (IntKind.wrap
  IntKind.i64 (Int.tdiv y.fst (128 : Int)), ()) ([IntKind.wrap IntKind.u8 (IntKind.wrap IntKind.i64 ((128 : Int) + Int.tmod y.fst (128 : Int)))] ++ z.fst, ()) < μ y z) ∧ (decide ((0 : Int) <
  y.fst) = false → z.fst = numO x.fst)
theorem e74 : t74 = Con.vc c_r03_Number GL (mkEnv ty [] [] [] [0, 2, 3, 11]) {} Tryd.f74.ntmps Tryd.f74.results.toList (bodyOf Tryd.f74) := by kernel_rfl
theorem k74 : t74 := by
  unfold t74
  rintro ⟨n, _⟩ hx hp
  obtain ⟨p1, p2⟩ := hp
  simp only at p1 p2
  have h4 := small4 p2
  try dsimp +instances only [dft_int, dft_sl, dft_str]
  simp only [true_and, and_true, eq_self_iff_true, implies_true, reduceCtorEq, false_implies, true_implies, decide_eq_true_eq, decide_eq_false_iff_not, beq_self_eq_true, Bool.not_eq_true', ne_eq, Decidable.not_not, List.nil_append, List.length_singleton, List.length_cons, List.length_nil, Nat.zero_add, Nat.add_zero, Nat.mul_one, and_self, beq_iff_eq, Bool.not_true, Bool.not_false, Bool.not_eq_false', Bool.cond_false_right, Bool.and_eq_true, imp_self, Bool.not_eq_true, Bool.cond_true_left, Bool.or_eq_true]
  have hd : ∀ m : Int, 0 ≤ m → m ≤ 2147483647 → IntKind.wrap .i64 (m.tdiv 128) = m / 128 := fun m h0 h1 => by
    rw [Int.tdiv_eq_ediv_of_nonneg h0, wrapK _ (by omega) (by omega)]
  have hm : ∀ m : Int, 0 ≤ m → m.tmod 128 = m % 128 := fun m h0 => Int.tmod_eq_emod_of_nonneg h0
  rw [hd n p1 p2, hm n p1]
  refine ⟨by decide, by decide, fun y z => ∃ j : Nat, j ≤ 4 ∧ y.1 = n / 128 ^ (j + 1) ∧ z.1 = hiD j n ++ [n % 128] ∧ (0 < j → 0 < n / 128 ^ j), fun y _ => y.1.toNat, ⟨0, by omega, by simp, by simp only [hiD, List.nil_append]; rw [wrap_u8]; congr 1; omega, fun h => absurd h (by omega)⟩, ?_⟩
  rintro ⟨y, _⟩ ⟨z, _⟩ _ _ ⟨j, j4, ey, ez, hj⟩
  simp only at ey ez ⊢
  subst ez
  have e1 := pow_div n j j4
  have hb : 0 ≤ y ∧ y ≤ 2147483647 := by
    have : j = 0 ∨ j = 1 ∨ j = 2 ∨ j = 3 ∨ j = 4 := by omega
    rcases this with rfl | rfl | rfl | rfl | rfl <;> simp only [Nat.reduceAdd, Int.reducePow] at ey <;> omega
  refine ⟨fun hlt => ?_, fun hge => ?_⟩
  · have : j < 4 := by
      rcases Nat.lt_or_ge j 4 with h | h
      · exact h
      · rw [show j = 4 by omega] at e1 ey; omega
    rw [hd y hb.1 hb.2, hm y hb.1, wrapK (128 + y % 128) (by omega) (by omega)]
    have hl : (hiD j n ++ [n % 128]).length ≤ 5 := by rw [List.length_append, hi_length]; simp; omega
    refine ⟨by decide, by decide, by omega, by omega, by decide, ⟨j + 1, by omega, ?_, ?_, fun _ => by rw [← ey]; exact hlt⟩, by omega⟩
    · rw [pow_div n (j + 1) (by omega), ← ey]
    · rw [hiD, ← ey, wrap_u8]
      simp only [List.cons_append, List.nil_append]
      congr 1
      omega
  · have hN : hiN n = j := hi_is p1 j4 (by omega) hj
    rw [numO, hN]
theorem h74 : c_r03_Number.ok Tryd.prog GL 74 := con_ok (H := {}) (mkEnv_ok (gl := GL) (l := []) (q := []) (d := []) _ tyOk (by kernel_rfl) trivial trivial trivial) (by kernel_rfl) (by kernel_rfl) (Eq.mp e74 k74)

def t48 : Prop :=
  ∀ (x : List Int × Unit), Kd.wf (Kd.sl (Kd.int IntKind.i64)) x.fst ∧ True → True → True ∧ (∀ (y : Bool × Unit), Kd.wf Kd.bool y.fst ∧ True → y.fst = mayO x.fst → ((!y.fst) = true → ([], (2 :
  Int)) = EncO x.fst) ∧ ((!y.fst) = false → ((0 : Int) ≤ (0 : Int) ∧ (0 : Int) < (↑(List.length x.fst) : Int)) ∧ ((0 : Int) ≤ (1 : Int) ∧ (1 : Int) < (↑(List.length x.fst) : Int)) ∧ (lenI []
  ≤ (1000 : Nat) ∧ (0 : Int) ≤ IntKind.wrap IntKind.i64 (IntKind.wrap IntKind.i64 ((40 : Int) * List.getD x.fst (0 : Nat) (Kd.dft (Kd.int IntKind.i64))) + List.getD x.fst (1 : Nat) (Kd.dft
  (Kd.int IntKind.i64))) ∧ IntKind.wrap IntKind.i64 (IntKind.wrap IntKind.i64 ((40 : Int) * List.getD x.fst (0 : Nat) (Kd.dft (Kd.int IntKind.i64))) + List.getD x.fst (1 : Nat) (Kd.dft
  (Kd.int IntKind.i64))) ≤ (2147483647 : Int)) ∧ (∀ (y : List Int × Unit), Kd.wf (Kd.sl (Kd.int IntKind.u8)) y.fst ∧ True → y.fst = [] ++ numO (IntKind.wrap IntKind.i64 (IntKind.wrap
  IntKind.i64 ((40 : Int) * List.getD x.fst (0 : Nat) (Kd.dft (Kd.int IntKind.i64))) + List.getD x.fst (1 : Nat) (Kd.dft (Kd.int IntKind.i64)))) → ((0 : Int) ≤ (2 : Int) ∧ (2 : Int) ≤
  (↑(List.length x.fst) : Int)) ∧ ∃ (I : Int × Unit → List Int × Unit → Prop), ∃ (μ : Int × Unit → List Int × Unit → Nat), ((↑(List.length (List.drop (2 : Nat) x.fst)) : Int) = (↑(List.length
  (List.drop (2 : Nat) x.fst)) : Int) ∧ List.drop (2 : Nat) x.fst = List.drop (2 : Nat) x.fst ∧ Value.bool false = Value.bool false ∧ (0 : Int) = (0 : Int) ∧ Value.slice none (0 : Nat) (0 :
  Nat) = Value.slice none (0 : Nat) (0 : Nat) ∧ x.fst = x.fst ∧ I ((0 : Int), ()) (y.fst, ())) ∧ ∀ (y : Int × Unit) (z : List Int × Unit), Kd.wf (Kd.int IntKind.i64) y.fst ∧ True → Kd.wf
  (Kd.sl (Kd.int IntKind.u8)) z.fst ∧ True → I y z → (decide (y.fst < (↑(List.length (List.drop (2 : Nat) x.fst)) : Int)) = true → ((0 : Int) ≤ y.fst ∧ y.fst < (↑(List.length (List.drop (2 :
  Nat) x.fst)) : Int)) ∧ (lenI z.fst ≤ (1000 : Nat) ∧ (0 : Int) ≤ List.getD (List.drop (2 : Nat) x.fst) (Int.toNat y.fst) (Kd.dft (Kd.int IntKind.i64)) ∧ List.getD (List.drop (2 : Nat) x.fst)
  (Int.toNat y.fst) (Kd.dft (Kd.int IntKind.i64)) ≤ (2147483647 : Int)) ∧ (∀ (y_1 : List Int × Unit), Kd.wf (Kd.sl (Kd.int IntKind.u8)) y_1.fst ∧ True → y_1.fst = z.fst ++ numO (List.getD
  (List.drop (2 : Nat) x.fst) (Int.toNat y.fst) (Kd.dft (Kd.int IntKind.i64))) → (↑(List.length (List.drop (2 : Nat) x.fst)) : Int) = (↑(List.length (List.drop (2 : Nat) x.fst)) : Int) ∧
  List.drop (2 : Nat) x.fst = List.drop (2 : Nat) x.fst ∧ Value.bool false = Value.bool false ∧ (0 : Int) = (0 : Int) ∧ Value.slice none (0 : Nat) (0 : Nat) = Value.slice none (0 : Nat) (0 :
  Nat) ∧ x.fst = x.fst ∧ I (IntKind.wrap IntKind.i64 (y.fst + (1 : Int)), ()) (y_1.fst, ()) ∧ μ (IntKind.wrap IntKind.i64 (y.fst + (1 : Int)), ()) (y_1.fst, ()) < μ y z) ∧ True) ∧ (decide
  (y.fst < (↑(List.length (List.drop (2 : Nat) x.fst)) : Int)) = false → (z.fst, (0 : Int)) = EncO x.fst)) ∧ True)) ∧ True
theorem e48 : t48 = Con.vc c_oid_Encode GL (mkEnv ty [(70, conSem c_oid_May), (71, conSem c_oid_number)] [] [] [0, 2, 3, 4, 6, 9, 20, 21, 22, 23]) {} Tryd.f48.ntmps Tryd.f48.results.toList (bodyOf Tryd.f48) := by kernel_rfl
theorem k48 : t48 := by
  unfold t48
  rintro ⟨l, _⟩ hx hp
  try dsimp +instances only [dft_int, dft_sl, dft_str]
  simp only [true_and, and_true, eq_self_iff_true, implies_true, reduceCtorEq, false_implies, true_implies, decide_eq_true_eq, decide_eq_false_iff_not, beq_self_eq_true, Bool.not_eq_true', ne_eq, Decidable.not_not, List.nil_append, List.length_singleton, List.length_cons, List.length_nil, Nat.zero_add, Nat.add_zero, Nat.mul_one, and_self, beq_iff_eq, Bool.not_true, Bool.not_false, Bool.not_eq_false', Bool.cond_false_right, Bool.and_eq_true, imp_self, Bool.not_eq_true, Bool.cond_true_left, Bool.or_eq_true]
  simp only [all_bool]
  refine ⟨fun h => by rw [EncO, h]; rfl, fun h => ?_⟩
  obtain ⟨h1, h2, h3, h4, h5⟩ := may_args h
  have hg : ∀ i, i < l.length → 0 ≤ l.getD i 0 ∧ l.getD i 0 ≤ 2147483647 := fun i hi => h3 _ (by
    rw [List.getD_eq_getElem?_getD, List.getElem?_eq_getElem hi]
    exact List.getElem_mem _)
  have g0 := hg 0 (by omega)
  have g1 := hg 1 (by omega)
  rw [wrapK (40 * l.getD 0 0) (by omega) (by omega), wrapK (40 * l.getD 0 0 + l.getD 1 0) (by omega) (by omega)]
  refine ⟨⟨by omega, by omega⟩, ⟨by omega, by omega⟩, ⟨by decide, h4, h5⟩, ?_⟩
  rintro ⟨a, _⟩ _ ea
  simp only at ea ⊢
  have hdl : (List.drop 2 l).length = l.length - 2 := List.length_drop
  have hdg : ∀ i : Nat, (List.drop 2 l).getD i 0 = l.getD (i + 2) 0 := fun i => by
    rw [List.getD_eq_getElem?_getD, List.getElem?_drop, ← List.getD_eq_getElem?_getD, Nat.add_comm]
  rw [hdl]
  refine ⟨⟨by omega, by omega⟩, fun y z => 0 ≤ y.1 ∧ y.1 ≤ (l.length : Int) - 2 ∧ z.1 = encP l (y.1.toNat + 2), fun y _ => ((l.length : Int) - y.1).toNat, ⟨Int.le_refl 0, by simp only; omega, by rw [ea]; exact (encP_two l).symm⟩, ?_⟩
  rintro ⟨i, _⟩ ⟨z, _⟩ _ _ ⟨i0, i1, ez⟩
  simp only at i0 i1 ez ⊢
  have hw1 : IntKind.wrap .i64 (i + 1) = i + 1 := wrapK _ (by omega) (by omega)
  rw [hw1, hdg]
  refine ⟨fun hlt => ⟨⟨by omega, hlt⟩, ⟨?_, hg (i.toNat + 2) (by omega)⟩, ?_⟩, fun hge => ?_⟩
  · have l1 := encP_len l (i.toNat + 2)
    rw [← ez] at l1
    show z.length ≤ 1000
    omega
  · rintro ⟨c, _⟩ _ ec
    simp only at ec ⊢
    refine ⟨⟨by omega, by omega, ?_⟩, by omega⟩
    rw [show (i + 1).toNat + 2 = i.toNat + 2 + 1 by omega, encP_step (by omega) (by omega), ec, ez]
  · rw [EncO, h, if_pos rfl, ez, encP_all (by omega)]
theorem h48 : c_oid_Encode.ok Tryd.prog GL 48 := con_ok (H := {}) (mkEnv_ok (gl := GL) (l := [(70, conSem c_oid_May), (71, conSem c_oid_number)]) (q := []) (d := []) _ tyOk (by kernel_rfl) ⟨h70.call, h71.call, trivial⟩ trivial trivial) (by kernel_rfl) (by kernel_rfl) (Eq.mp e48 k48)

def t50 : Prop :=
  ∀ (x : List Int × Unit), Kd.wf (Kd.sl (Kd.int IntKind.i64)) x.fst ∧ True → True → True ∧ (∀ (y : Bool × Unit), Kd.wf Kd.bool y.fst ∧ True → y.fst = mayO x.fst → ((!y.fst) = true → ([], (2 :
  Int)) = EncO x.fst) ∧ ((!y.fst) = false → ((0 : Int) ≤ (0 : Int) ∧ (0 : Int) < (↑(List.length x.fst) : Int)) ∧ ((0 : Int) ≤ (1 : Int) ∧ (1 : Int) < (↑(List.length x.fst) : Int)) ∧ ((0 :
  Int) ≤ IntKind.wrap IntKind.i64 (IntKind.wrap IntKind.i64 ((40 : Int) * List.getD x.fst (0 : Nat) (Kd.dft (Kd.int IntKind.i64))) + List.getD x.fst (1 : Nat) (Kd.dft (Kd.int IntKind.i64))) ∧
  IntKind.wrap IntKind.i64 (IntKind.wrap IntKind.i64 ((40 : Int) * List.getD x.fst (0 : Nat) (Kd.dft (Kd.int IntKind.i64))) + List.getD x.fst (1 : Nat) (Kd.dft (Kd.int IntKind.i64))) ≤
  (2147483647 : Int)) ∧ (∀ (y : List Int × Unit), Kd.wf (Kd.sl (Kd.int IntKind.u8)) y.fst ∧ True → y.fst = numO (IntKind.wrap IntKind.i64 (IntKind.wrap IntKind.i64 ((40 : Int) * List.getD
  x.fst (0 : Nat) (Kd.dft (Kd.int IntKind.i64))) + List.getD x.fst (1 : Nat) (Kd.dft (Kd.int IntKind.i64)))) → ∃ (I : Int × Unit → List Int × Unit → Prop), ∃ (μ : Int × Unit → List Int × Unit
  → Nat), (Value.bool false = Value.bool false ∧ (0 : Int) = (0 : Int) ∧ Value.slice none (0 : Nat) (0 : Nat) = Value.slice none (0 : Nat) (0 : Nat) ∧ x.fst = x.fst ∧ I ((2 : Int), ())
  (y.fst, ())) ∧ ∀ (y : Int × Unit) (z : List Int × Unit), Kd.wf (Kd.int IntKind.i64) y.fst ∧ True → Kd.wf (Kd.sl (Kd.int IntKind.u8)) z.fst ∧ True → I y z → (decide (y.fst < (↑(List.length
  x.fst) : Int)) = true → ((0 : Int) ≤ y.fst ∧ y.fst < (↑(List.length x.fst) : Int)) ∧ ((0 : Int) ≤ List.getD x.fst (Int.toNat y.fst) (Kd.dft (Kd.int IntKind.i64)) ∧ List.getD x.fst
  (Int.toNat y.fst) (Kd.dft (Kd.int IntKind.i64)) ≤ (2147483647 : Int)) ∧ (∀ (y_1 : List Int × Unit), Kd.wf (Kd.sl (Kd.int IntKind.u8)) y_1.fst ∧ True → y_1.fst = numO (List.getD x.fst
  (Int.toNat y.fst) (Kd.dft (Kd.int IntKind.i64))) → (0 : Nat) < (1 : Nat) ∧ (List.length z.fst + List.length y_1.fst) * (1 : Nat) ≤ (140737488355328 : Nat) ∧ List.length z.fst + List.length
  y_1.fst ≤ (9223372036854775807 : Nat) ∧ Value.bool false = Value.bool false ∧ (0 : Int) = (0 : Int) ∧ Value.slice none (0 : Nat) (0 : Nat) = Value.slice none (0 : Nat) (0 : Nat) ∧ x.fst =
  x.fst ∧ I (IntKind.wrap IntKind.i64 (y.fst + (1 : Int)), ()) (z.fst ++ y_1.fst, ()) ∧ μ (IntKind.wrap IntKind.i64 (y.fst + (1 : Int)), ()) (z.fst ++ y_1.fst, ()) < μ y z) ∧ True) ∧ (decide
  (y.fst < (↑(List.length x.fst) : Int)) = false → (z.fst, (0 : Int)) = EncO x.fst)) ∧ True)) ∧ True
theorem e50 : t50 = Con.vc c_r03_Encode GL (mkEnv ty [(73, conSem c_r03_May), (74, conSem c_r03_Number)] [] [] [0, 2, 3, 4, 5, 8, 21]) {} Tryd.f50.ntmps Tryd.f50.results.toList (bodyOf Tryd.f50) := by kernel_rfl
theorem k50 : t50 := by
  unfold t50
  rintro ⟨l, _⟩ hx hp
  try dsimp +instances only [dft_int, dft_sl, dft_str]
  simp only [true_and, and_true, eq_self_iff_true, implies_true, reduceCtorEq, false_implies, true_implies, decide_eq_true_eq, decide_eq_false_iff_not, beq_self_eq_true, Bool.not_eq_true', ne_eq, Decidable.not_not, List.nil_append, List.length_singleton, List.length_cons, List.length_nil, Nat.zero_add, Nat.add_zero, Nat.mul_one, and_self, beq_iff_eq, Bool.not_true, Bool.not_false, Bool.not_eq_false', Bool.cond_false_right, Bool.and_eq_true, imp_self, Bool.not_eq_true, Bool.cond_true_left, Bool.or_eq_true]
  simp only [all_bool]
  refine ⟨fun h => by rw [EncO, h]; rfl, fun h => ?_⟩
  obtain ⟨h1, h2, h3, h4, h5⟩ := may_args h
  have hg : ∀ i, i < l.length → 0 ≤ l.getD i 0 ∧ l.getD i 0 ≤ 2147483647 := fun i hi => h3 _ (by
    rw [List.getD_eq_getElem?_getD, List.getElem?_eq_getElem hi]
    exact List.getElem_mem _)
  have g0 := hg 0 (by omega)
  have g1 := hg 1 (by omega)
  rw [wrapK (40 * l.getD 0 0) (by omega) (by omega), wrapK (40 * l.getD 0 0 + l.getD 1 0) (by omega) (by omega)]
  refine ⟨⟨by omega, by omega⟩, ⟨by omega, by omega⟩, ⟨h4, h5⟩, ?_⟩
  rintro ⟨a, _⟩ _ ea
  simp only at ea ⊢
  refine ⟨fun y z => 2 ≤ y.1 ∧ y.1 ≤ l.length ∧ z.1 = encP l y.1.toNat, fun y _ => ((l.length : Int) - y.1).toNat, ⟨by simp, by simp only; omega, by rw [ea]; exact (encP_two l).symm⟩, ?_⟩
  rintro ⟨i, _⟩ ⟨z, _⟩ _ _ ⟨i0, i1, ez⟩
  simp only at i0 i1 ez ⊢
  have hw1 : IntKind.wrap .i64 (i + 1) = i + 1 := wrapK _ (by omega) (by omega)
  rw [hw1]
  refine ⟨fun hlt => ⟨⟨by omega, hlt⟩, hg i.toNat (by omega), ?_⟩, fun hge => ?_⟩
  · rintro ⟨c, _⟩ _ ec
    simp only at ec ⊢
    have l1 := encP_len l i.toNat
    have l2 := num_length (l.getD i.toNat 0)
    rw [← ez] at l1
    rw [← ec] at l2
    refine ⟨by decide, by omega, by omega, ⟨by omega, by omega, ?_⟩, by omega⟩
    rw [show (i + 1).toNat = i.toNat + 1 by omega, encP_step (by omega) (by omega), ez, ec]
  · rw [EncO, h, if_pos rfl, ez, encP_all (by omega)]
theorem h50 : c_r03_Encode.ok Tryd.prog GL 50 := con_ok (H := {}) (mkEnv_ok (gl := GL) (l := [(73, conSem c_r03_May), (74, conSem c_r03_Number)]) (q := []) (d := []) _ tyOk (by kernel_rfl) ⟨h73.call, h74.call, trivial⟩ trivial trivial) (by kernel_rfl) (by kernel_rfl) (Eq.mp e50 k50)

end Go.Proofs.YtcaekpbmmbfeiaaDoor
