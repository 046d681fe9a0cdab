/- Walks. -/
import Derived.Test.YtgikinbkhhfgiaaZA
namespace Go.Proofs.Ytgikinbkhhfgiaa
open Go Go.Vc Go.Proofs
set_option linter.unusedVariables false
theorem set_self {x : Bool} : x = true → x = true := id
def fit (x : Int) (n : Nat) : Prop := -(2 ^ (8 * n - 1) : Int) ≤ x ∧ x < 2 ^ (8 * n - 1)
theorem fit_step (x : Int) (j : Nat) (hj : j ≤ 6) (hf : fit x (8 - j)) :
    (((low x 8).getD j 0 = 0 ∧ (low x 8).getD (j + 1) 0 < 128) ∨ ((low x 8).getD j 0 = 255 ∧ 128 ≤ (low x 8).getD (j + 1) 0)) ↔ fit x (7 - j) := by
  match j, hj with
  | 0, _ | 1, _ | 2, _ | 3, _ | 4, _ | 5, _ | 6, _ => simp [low, fit] at hf ⊢; omega
theorem wide_eq (x : Int) (n : Nat) (h1 : 1 ≤ n) (h8 : n ≤ 8) (hf : fit x n) (hn : n = 1 ∨ ¬ fit x (n - 1)) : wide x 1 7 = n := by
  match n, h1, h8 with
  | 1, _, _ | 2, _, _ | 3, _, _ | 4, _, _ | 5, _, _ | 6, _, _ | 7, _, _ | 8, _, _ =>
    simp [fit] at hf hn
    simp only [wide]
    repeat' split
    all_goals first | rfl | (exfalso; simp at *; omega)
theorem low_drop (x : Int) (j : Nat) (hj : j ≤ 8) : (low x 8).drop j = low x (8 - j) := by
  match j, hj with
  | 0, _ | 1, _ | 2, _ | 3, _ | 4, _ | 5, _ | 6, _ | 7, _ | 8, _ => rfl
theorem low_len (x : Int) : ∀ n, (low x n).length = n
  | 0 => rfl
  | n + 1 => by simp [low, low_len x n]
theorem low_at (x : Int) (i : Nat) (hi : i < 8) : (low x 8)[i]? = some ((x / 256 ^ (7 - i)) % 256) := by
  match i, hi with
  | 0, _ | 1, _ | 2, _ | 3, _ | 4, _ | 5, _ | 6, _ | 7, _ => rfl
theorem byte_u64 (x : Int) (n : Nat) (hn : n ≤ 7) : IntKind.wrap .u8 (Int.fdiv (IntKind.wrap .u64 x) (2 ^ min (IntKind.wrap .i64 (8 * (n : Int))).toNat 64)) = (x / 256 ^ n) % 256 := by
  match n, hn with
  | 0, _ | 1, _ | 2, _ | 3, _ | 4, _ | 5, _ | 6, _ | 7, _ =>
    simp [IntKind.wrap, IntKind.signed, IntKind.bits, Int.fdiv_eq_ediv_of_nonneg] <;> omega
theorem byte_i64 (x : Int) (n : Nat) (hn : n ≤ 7) : IntKind.wrap .u8 (Int.fdiv x (2 ^ min (IntKind.wrap .i64 (56 - IntKind.wrap .i64 (8 * (n : Int)))).toNat 64)) = (x / 256 ^ (7 - n)) % 256 := by
  match n, hn with
  | 0, _ | 1, _ | 2, _ | 3, _ | 4, _ | 5, _ | 6, _ | 7, _ =>
    simp [IntKind.wrap, IntKind.signed, IntKind.bits, Int.fdiv_eq_ediv_of_nonneg]
theorem fit8 {x : Int} (h : InR .i64 x) : fit x 8 := by
  simp [InR, IntKind.min, IntKind.max, IntKind.signed, IntKind.bits] at h
  simp [fit]
  omega
theorem rest (x : Int) (j : Nat) (hj : j ≤ 7) (hf : fit x (8 - j)) (hn : j = 7 ∨ ¬ fit x (7 - j)) : ((low x 8).drop j).take (8 - j) = IntD x := by
  rw [low_drop x j (by omega), List.take_of_length_le (by rw [low_len]; exact Nat.le_refl _), IntD, wide_eq x (8 - j) (by omega) (by omega) hf]
  rcases hn with h | h
  · exact .inl (by omega)
  · exact .inr (by rw [show 8 - j - 1 = 7 - j by omega]; exact h)
def t20 : Prop :=
  ∀ (x : List Int × Unit),
    Kd.wf (Kd.sl (Kd.int IntKind.u8)) x.fst ∧ True →
      List.length x.fst ≤ (1000000000 : Nat) →
        ∀ (b : Bool),
          (b = true → x.fst = []) →
            (b = true → [] = x.fst) ∧
              (b = false →
                (0 : Nat) < (1 : Nat) ∧ ((0 : Nat) + List.length x.fst) * (1 : Nat) ≤ (140737488355328 : Nat) ∧ (0 : Nat) + List.length x.fst ≤ (9223372036854775807 : Nat) ∧ [] ++ x.fst = x.fst)
theorem e20 : t20 = Con.vc c20 (mkEnv ty [] [0, 2, 4]) {} Try.f20.ntmps Try.f20.results.toList (bodyOf Try.f20) := by kernel_rfl
theorem k20 : t20 := by
  unfold t20
  intro x hx hp b hb
  refine ⟨fun h => (hb h).symm, fun _ => ⟨by decide, by omega, by omega, rfl⟩⟩
theorem h20 : c20.ok Try.prog 20 := con_ok (E := mkEnv ty [] [0, 2, 4]) (H := {}) (mkEnv_ok _ tyOk (by kernel_rfl) trivial) (by kernel_rfl) (by kernel_rfl) (Eq.mp e20 k20)

def t6 : Prop :=
  ∀ (x : List Int × List Int × List Int × Unit),
    Kd.wf (Kd.sl (Kd.int IntKind.u8)) x.fst ∧ Kd.wf (Kd.sl (Kd.int IntKind.u8)) x.snd.fst ∧ Kd.wf (Kd.sl (Kd.int IntKind.u8)) x.snd.snd.fst ∧ True →
      List.length x.fst ≤ (1000000000 : Nat) →
        (decide (x.fst ≠ x.snd.snd.fst) = true → x.fst = x.snd.snd.fst → x.snd.fst = x.snd.snd.fst → false = true) ∧
          (decide (x.fst ≠ x.snd.snd.fst) = false →
            ∃ (I : Int × Unit → List Int × Unit → Prop),
              ∃ (μ : Int × Unit → List Int × Unit → Nat),
                (decide (x.fst ≠ x.snd.snd.fst) = decide (x.fst ≠ x.snd.snd.fst) ∧ false = false ∧ x.snd.fst = x.snd.fst ∧ x.snd.snd.fst = x.snd.snd.fst ∧ I ((0 : Int), ()) (x.fst, ())) ∧
                  ∀ (y : Int × Unit) (z : List Int × Unit),
                    Kd.wf (Kd.int IntKind.i64) y.fst ∧ True →
                      Kd.wf (Kd.sl (Kd.int IntKind.u8)) z.fst ∧ True →
                        I y z →
                          (decide (y.fst < (↑(List.length z.fst) : Int)) = true →
                              ((0 : Int) ≤ y.fst ∧ y.fst < (↑(List.length z.fst) : Int)) ∧
                                ((0 : Int) ≤ y.fst ∧ y.fst < (↑(List.length z.fst) : Int)) ∧
                                  decide (x.fst ≠ x.snd.snd.fst) = decide (x.fst ≠ x.snd.snd.fst) ∧
                                    false = false ∧
                                      x.snd.fst = x.snd.fst ∧
                                        x.snd.snd.fst = x.snd.snd.fst ∧
                                          I (IntKind.wrap IntKind.i64 (y.fst + (1 : Int)), ())
                                              (List.set z.fst (Int.toNat y.fst) (IntKind.wrap IntKind.u8 (List.getD z.fst (Int.toNat y.fst) (Kd.dft (Kd.int IntKind.u8)) + (1 : Int))), ()) ∧
                                            μ (IntKind.wrap IntKind.i64 (y.fst + (1 : Int)), ())
                                                (List.set z.fst (Int.toNat y.fst) (IntKind.wrap IntKind.u8 (List.getD z.fst (Int.toNat y.fst) (Kd.dft (Kd.int IntKind.u8)) + (1 : Int))), ()) <
                                              μ y z) ∧
                            (decide (y.fst < (↑(List.length z.fst) : Int)) = false →
                              (0 : Nat) < (1 : Nat) ∧
                                (List.length z.fst + (2 : Nat)) * (1 : Nat) ≤ (140737488355328 : Nat) ∧
                                  List.length z.fst + (2 : Nat) ≤ (9223372036854775807 : Nat) ∧ (x.fst = x.snd.snd.fst → x.snd.fst = x.snd.snd.fst → decide (x.snd.fst = x.snd.snd.fst) = true)))
theorem e6 : t6 = Con.vc c6 (mkEnv ty [] [0, 1, 2, 6, 7, 12, 16]) {} Try.f6.ntmps Try.f6.results.toList (bodyOf Try.f6) := by kernel_rfl
theorem k6 : t6 := by
  unfold t6
  intro x hx hp
  refine ⟨fun h h1 => absurd h1 (of_decide_eq_true h), fun h => ⟨fun y z => 0 ≤ y.1 ∧ z.1.length ≤ 1000000000, fun y z => (z.1.length - y.1).toNat, ⟨rfl, rfl, rfl, rfl, by decide, hp⟩, ?_⟩⟩
  rintro ⟨i, u⟩ ⟨z, u'⟩ hw hw2 ⟨h1, h2⟩
  simp only at h1 h2 hw hw2 ⊢
  refine ⟨fun hc => ?_, fun hc => ⟨by decide, by omega, by omega, fun _ e => decide_eq_true e⟩⟩
  have hc := of_decide_eq_true hc
  have hwr : IntKind.wrap .i64 (i + 1) = i + 1 := by rw [IntKind.wrap_i64]; omega
  refine ⟨by omega, by omega, by trivial, by trivial, by trivial, by trivial, ?_, ?_⟩
  · rw [hwr, List.length_set]; exact ⟨by omega, h2⟩
  · rw [hwr, List.length_set]; omega
theorem h6 : c6.ok Try.prog 6 := con_ok (E := mkEnv ty [] [0, 1, 2, 6, 7, 12, 16]) (H := {}) (mkEnv_ok _ tyOk (by kernel_rfl) trivial) (by kernel_rfl) (by kernel_rfl) (Eq.mp e6 k6)

def t9 : Prop :=
  ∀ (x : Unit), True → True → true = true
theorem e9 : t9 = Con.vc c9 (mkEnv ty [] [0]) {} Try.f9.ntmps Try.f9.results.toList (bodyOf Try.f9) := by kernel_rfl
theorem k9 : t9 := by
  unfold t9
  intro _ _ _
  rfl
theorem h9 : c9.ok Try.prog 9 := con_ok (E := mkEnv ty [] [0]) (H := {}) (mkEnv_ok _ tyOk (by kernel_rfl) trivial) (by kernel_rfl) (by kernel_rfl) (Eq.mp e9 k9)

def t12 : Prop :=
  ∀ (x : Bool × Unit), Kd.wf Kd.bool x.fst ∧ True → True → (x.fst = true → [(255 : Int)] = BoolD x.fst) ∧ (x.fst = false → [(0 : Int)] = BoolD x.fst)
theorem e12 : t12 = Con.vc c12 (mkEnv ty [] [0, 2, 3]) {} Try.f12.ntmps Try.f12.results.toList (bodyOf Try.f12) := by kernel_rfl
theorem k12 : t12 := by
  unfold t12
  intro x _ _
  exact ⟨fun h => by rw [h]; rfl, fun h => by rw [h]; rfl⟩
theorem h12 : c12.ok Try.prog 12 := con_ok (E := mkEnv ty [] [0, 2, 3]) (H := {}) (mkEnv_ok _ tyOk (by kernel_rfl) trivial) (by kernel_rfl) (by kernel_rfl) (Eq.mp e12 k12)

def t13 : Prop :=
  ∀ (x : Bool × Unit), Kd.wf Kd.bool x.fst ∧ True → True → (x.fst = true → [(255 : Int)] = BoolD x.fst) ∧ (x.fst = false → [(0 : Int)] = BoolD x.fst)
theorem e13 : t13 = Con.vc c13 (mkEnv ty [] [0, 2, 3]) {} Try.f13.ntmps Try.f13.results.toList (bodyOf Try.f13) := by kernel_rfl
theorem k13 : t13 := by
  unfold t13
  intro x _ _
  exact ⟨fun h => by rw [h]; rfl, fun h => by rw [h]; rfl⟩
theorem h13 : c13.ok Try.prog 13 := con_ok (E := mkEnv ty [] [0, 2, 3]) (H := {}) (mkEnv_ok _ tyOk (by kernel_rfl) trivial) (by kernel_rfl) (by kernel_rfl) (Eq.mp e13 k13)

def t21 : Prop :=
  ∀ (x : Int × Int × Unit),
    Kd.wf (Kd.int IntKind.i64) x.fst ∧ Kd.wf (Kd.int IntKind.i64) x.snd.fst ∧ True →
      (0 : Int) ≤ x.snd.fst ∧ x.snd.fst ≤ (8 : Int) →
        ∃ (I : Int × Unit → List Int × Unit → Prop),
          ∃ (μ : Int × Unit → List Int × Unit → Nat),
            (Value.slice none (0 : Nat) (0 : Nat) = Value.slice none (0 : Nat) (0 : Nat) ∧ x.fst = x.fst ∧ x.snd.fst = x.snd.fst ∧ I (IntKind.wrap IntKind.i64 (x.snd.fst - (1 : Int)), ()) ([], ())) ∧
              ∀ (y : Int × Unit) (z : List Int × Unit),
                Kd.wf (Kd.int IntKind.i64) y.fst ∧ True →
                  Kd.wf (Kd.sl (Kd.int IntKind.u8)) z.fst ∧ True →
                    I y z →
                      (decide ((0 : Int) ≤ y.fst) = true →
                          (0 : Int) ≤ IntKind.wrap IntKind.i64 ((8 : Int) * y.fst) ∧
                            (0 : Nat) < (1 : Nat) ∧
                              (List.length z.fst +
                                      List.length
                                        [IntKind.wrap IntKind.u8 (Int.fdiv (IntKind.wrap IntKind.u64 x.fst) ((2 : Int) ^ min (Int.toNat (IntKind.wrap IntKind.i64 ((8 : Int) * y.fst))) (64 : Nat)))]) *
                                    (1 : Nat) ≤
                                  (140737488355328 : Nat) ∧
                                List.length z.fst +
                                      List.length
                                        [IntKind.wrap IntKind.u8 (Int.fdiv (IntKind.wrap IntKind.u64 x.fst) ((2 : Int) ^ min (Int.toNat (IntKind.wrap IntKind.i64 ((8 : Int) * y.fst))) (64 : Nat)))] ≤
                                    (9223372036854775807 : Nat) ∧
                                  Value.slice none (0 : Nat) (0 : Nat) = Value.slice none (0 : Nat) (0 : Nat) ∧
                                    x.fst = x.fst ∧
                                      x.snd.fst = x.snd.fst ∧
                                        I (IntKind.wrap IntKind.i64 (y.fst - (1 : Int)), ())
                                            (z.fst ++
                                                [IntKind.wrap IntKind.u8
                                                    (Int.fdiv (IntKind.wrap IntKind.u64 x.fst) ((2 : Int) ^ min (Int.toNat (IntKind.wrap IntKind.i64 ((8 : Int) * y.fst))) (64 : Nat)))],
                                              ()) ∧
                                          μ (IntKind.wrap IntKind.i64 (y.fst - (1 : Int)), ())
                                              (z.fst ++
                                                  [IntKind.wrap IntKind.u8
                                                      (Int.fdiv (IntKind.wrap IntKind.u64 x.fst) ((2 : Int) ^ min (Int.toNat (IntKind.wrap IntKind.i64 ((8 : Int) * y.fst))) (64 : Nat)))],
                                                ()) <
                                            μ y z) ∧
                        (decide ((0 : Int) ≤ y.fst) = false → z.fst = low x.fst (Int.toNat x.snd.fst))
theorem e21 : t21 = Con.vc c21 (mkEnv ty [] [0, 1, 4, 5, 6, 10]) {} Try.f21.ntmps Try.f21.results.toList (bodyOf Try.f21) := by kernel_rfl
theorem k21 : t21 := by
  unfold t21
  rintro ⟨x, n, u⟩ hx hp
  simp only at hx hp ⊢
  have w0 : IntKind.wrap .i64 (n - 1) = n - 1 := by rw [IntKind.wrap_i64]; omega
  refine ⟨fun y z => -1 ≤ y.1 ∧ y.1 ≤ n - 1 ∧ z.1 ++ low x (y.1 + 1).toNat = low x n.toNat, fun y _ => (y.1 + 1).toNat, ⟨by trivial, by trivial, by trivial, ?_⟩, ?_⟩
  · rw [w0]
    exact ⟨by omega, by omega, by simp⟩
  · rintro ⟨i, u⟩ ⟨z, u'⟩ hw hw2 ⟨h1, h2, h3⟩
    simp only at h1 h2 h3 hw hw2 ⊢
    refine ⟨fun hc => ?_, fun hc => ?_⟩
    · have hc := of_decide_eq_true hc
      obtain ⟨m, rfl⟩ : ∃ m : Nat, i = m := ⟨i.toNat, by omega⟩
      have hl := congrArg List.length h3
      rw [List.length_append, low_len, low_len] at hl
      rw [byte_u64 x m (by omega)]
      have hwr : IntKind.wrap .i64 ((m : Int) - 1) = m - 1 := by rw [IntKind.wrap_i64]; omega
      refine ⟨by rw [IntKind.wrap_i64]; omega, by decide, by simp only [List.length_singleton]; omega, by simp only [List.length_singleton]; omega, by trivial, by trivial, by trivial, ?_, ?_⟩
      · rw [hwr]
        refine ⟨by omega, by omega, ?_⟩
        rw [← h3, show ((m : Int) + 1).toNat = m + 1 by omega, show ((m : Int) - 1 + 1).toNat = m by omega]
        simp [low]
      · rw [hwr]; omega
    · have hc := of_decide_eq_false hc
      have : i = -1 := by omega
      subst this
      simpa [low] using h3
theorem h21 : c21.ok Try.prog 21 := con_ok (E := mkEnv ty [] [0, 1, 4, 5, 6, 10]) (H := {}) (mkEnv_ok _ tyOk (by kernel_rfl) trivial) (by kernel_rfl) (by kernel_rfl) (Eq.mp e21 k21)

def t10 : Prop :=
  ∀ (x : Int × Unit),
    Kd.wf (Kd.int IntKind.i64) x.fst ∧ True →
      True →
        (8 : Nat) ≤ (65536 : Nat) ∧
          ∃ (I : Int × Unit → List Int × Unit → Prop),
            ∃ (μ : Int × Unit → List Int × Unit → Nat),
              (Value.slice none (0 : Nat) (0 : Nat) = Value.slice none (0 : Nat) (0 : Nat) ∧
                  x.fst = x.fst ∧ I ((0 : Int), ()) ([(0 : Int), (0 : Int), (0 : Int), (0 : Int), (0 : Int), (0 : Int), (0 : Int), (0 : Int)], ())) ∧
                ∀ (y : Int × Unit) (z : List Int × Unit),
                  Kd.wf (Kd.int IntKind.i64) y.fst ∧ True →
                    Kd.wf (Kd.sl (Kd.int IntKind.u8)) z.fst ∧ True →
                      I y z →
                        (decide (y.fst < (8 : Int)) = true →
                            (0 : Int) ≤ IntKind.wrap IntKind.i64 ((56 : Int) - IntKind.wrap IntKind.i64 ((8 : Int) * y.fst)) ∧
                              ((0 : Int) ≤ y.fst ∧ y.fst < (↑(8 : Nat) : Int) ∧ y.fst < (↑(List.length z.fst) : Int)) ∧
                                Value.slice none (0 : Nat) (0 : Nat) = Value.slice none (0 : Nat) (0 : Nat) ∧
                                  x.fst = x.fst ∧
                                    I (IntKind.wrap IntKind.i64 (y.fst + (1 : Int)), ())
                                        (List.set z.fst (Int.toNat y.fst)
                                            (IntKind.wrap IntKind.u8
                                              (Int.fdiv x.fst ((2 : Int) ^ min (Int.toNat (IntKind.wrap IntKind.i64 ((56 : Int) - IntKind.wrap IntKind.i64 ((8 : Int) * y.fst)))) (64 : Nat)))),
                                          ()) ∧
                                      μ (IntKind.wrap IntKind.i64 (y.fst + (1 : Int)), ())
                                          (List.set z.fst (Int.toNat y.fst)
                                              (IntKind.wrap IntKind.u8
                                                (Int.fdiv x.fst ((2 : Int) ^ min (Int.toNat (IntKind.wrap IntKind.i64 ((56 : Int) - IntKind.wrap IntKind.i64 ((8 : Int) * y.fst)))) (64 : Nat)))),
                                            ()) <
                                        μ y z) ∧
                          (decide (y.fst < (8 : Int)) = false →
                            ∃ (I : Int × Unit → Unit → Prop),
                              ∃ (μ : Int × Unit → Unit → Nat),
                                (decide (y.fst < (8 : Int)) = decide (y.fst < (8 : Int)) ∧
                                    y.fst = y.fst ∧ Value.slice none (0 : Nat) (0 : Nat) = Value.slice none (0 : Nat) (0 : Nat) ∧ x.fst = x.fst ∧ z.fst = z.fst ∧ I ((0 : Int), ()) ()) ∧
                                  ∀ (y_1 : Int × Unit) (z_1 : Unit),
                                    Kd.wf (Kd.int IntKind.i64) y_1.fst ∧ True →
                                      True →
                                        I y_1 z_1 →
                                          (decide (y_1.fst < (7 : Int)) = true →
                                              ((0 : Int) ≤ y_1.fst ∧ y_1.fst < (↑(8 : Nat) : Int) ∧ y_1.fst < (↑(List.length z.fst) : Int)) ∧
                                                (decide (List.getD z.fst (Int.toNat y_1.fst) (Kd.dft (Kd.int IntKind.u8)) = (0 : Int)) = true → True) ∧
                                                  (decide (List.getD z.fst (Int.toNat y_1.fst) (Kd.dft (Kd.int IntKind.u8)) = (0 : Int)) = true →
                                                      (decide (List.getD z.fst (Int.toNat y_1.fst) (Kd.dft (Kd.int IntKind.u8)) = (0 : Int)) == true) = true ∧ True) ∧
                                                    (decide (List.getD z.fst (Int.toNat y_1.fst) (Kd.dft (Kd.int IntKind.u8)) = (0 : Int)) = true →
                                                        (decide (List.getD z.fst (Int.toNat y_1.fst) (Kd.dft (Kd.int IntKind.u8)) = (0 : Int)) == true) = true ∧
                                                          ((0 : Int) ≤ IntKind.wrap IntKind.i64 (y_1.fst + (1 : Int)) ∧
                                                              IntKind.wrap IntKind.i64 (y_1.fst + (1 : Int)) < (↑(8 : Nat) : Int) ∧
                                                                IntKind.wrap IntKind.i64 (y_1.fst + (1 : Int)) < (↑(List.length z.fst) : Int)) ∧
                                                            True) ∧
                                                      (decide (List.getD z.fst (Int.toNat y_1.fst) (Kd.dft (Kd.int IntKind.u8)) = (0 : Int)) = true →
                                                          (decide (List.getD z.fst (Int.toNat y_1.fst) (Kd.dft (Kd.int IntKind.u8)) = (0 : Int)) == true) = true ∧ True) ∧
                                                        (decide (List.getD z.fst (Int.toNat y_1.fst) (Kd.dft (Kd.int IntKind.u8)) = (0 : Int)) = true →
                                                            (decide (List.getD z.fst (Int.toNat y_1.fst) (Kd.dft (Kd.int IntKind.u8)) = (0 : Int)) == true) = true ∧ True) ∧
                                                          (decide (List.getD z.fst (Int.toNat y_1.fst) (Kd.dft (Kd.int IntKind.u8)) = (0 : Int)) = true →
                                                              (decide (List.getD z.fst (Int.toNat y_1.fst) (Kd.dft (Kd.int IntKind.u8)) = (0 : Int)) == true) = true) ∧
                                                            ((bif decide (List.getD z.fst (Int.toNat y_1.fst) (Kd.dft (Kd.int IntKind.u8)) = (0 : Int)) then
                                                                    decide (List.getD z.fst (Int.toNat (IntKind.wrap IntKind.i64 (y_1.fst + (1 : Int)))) (Kd.dft (Kd.int IntKind.u8)) < (128 : Int))
                                                                  else false) =
                                                                  true →
                                                                ((bif decide (List.getD z.fst (Int.toNat y_1.fst) (Kd.dft (Kd.int IntKind.u8)) = (0 : Int)) then
                                                                        decide (List.getD z.fst (Int.toNat (IntKind.wrap IntKind.i64 (y_1.fst + (1 : Int)))) (Kd.dft (Kd.int IntKind.u8)) < (128 : Int))
                                                                      else false) =
                                                                      true →
                                                                    decide (y.fst < (8 : Int)) = decide (y.fst < (8 : Int)) ∧
                                                                      y.fst = y.fst ∧
                                                                        Value.slice none (0 : Nat) (0 : Nat) = Value.slice none (0 : Nat) (0 : Nat) ∧
                                                                          x.fst = x.fst ∧
                                                                            z.fst = z.fst ∧
                                                                              I (IntKind.wrap IntKind.i64 (y_1.fst + (1 : Int)), ()) () ∧
                                                                                μ (IntKind.wrap IntKind.i64 (y_1.fst + (1 : Int)), ()) () < μ y_1 z_1) ∧
                                                                  ((bif decide (List.getD z.fst (Int.toNat y_1.fst) (Kd.dft (Kd.int IntKind.u8)) = (0 : Int)) then
                                                                        decide (List.getD z.fst (Int.toNat (IntKind.wrap IntKind.i64 (y_1.fst + (1 : Int)))) (Kd.dft (Kd.int IntKind.u8)) < (128 : Int))
                                                                      else false) =
                                                                      false →
                                                                    ((0 : Int) ≤ y_1.fst ∧ y_1.fst ≤ (↑(8 : Nat) : Int)) ∧
                                                                      List.length z.fst = (8 : Nat) ∧
                                                                        List.length (List.take ((8 : Nat) - Int.toNat y_1.fst) (List.drop (Int.toNat y_1.fst) z.fst)) ≤ (1000000000 : Nat) ∧
                                                                          ∀ (y : List Int × Unit),
                                                                            Kd.wf (Kd.sl (Kd.int IntKind.u8)) y.fst ∧ True →
                                                                              y.fst = List.take ((8 : Nat) - Int.toNat y_1.fst) (List.drop (Int.toNat y_1.fst) z.fst) → y.fst = IntD x.fst)) ∧
                                                              ((bif decide (List.getD z.fst (Int.toNat y_1.fst) (Kd.dft (Kd.int IntKind.u8)) = (0 : Int)) then
                                                                    decide (List.getD z.fst (Int.toNat (IntKind.wrap IntKind.i64 (y_1.fst + (1 : Int)))) (Kd.dft (Kd.int IntKind.u8)) < (128 : Int))
                                                                  else false) =
                                                                  false →
                                                                ((0 : Int) ≤ y_1.fst ∧ y_1.fst < (↑(8 : Nat) : Int) ∧ y_1.fst < (↑(List.length z.fst) : Int)) ∧
                                                                  (decide (List.getD z.fst (Int.toNat y_1.fst) (Kd.dft (Kd.int IntKind.u8)) = (255 : Int)) = true → True) ∧
                                                                    (decide (List.getD z.fst (Int.toNat y_1.fst) (Kd.dft (Kd.int IntKind.u8)) = (255 : Int)) = true →
                                                                        (decide (List.getD z.fst (Int.toNat y_1.fst) (Kd.dft (Kd.int IntKind.u8)) = (255 : Int)) == true) = true ∧ True) ∧
                                                                      (decide (List.getD z.fst (Int.toNat y_1.fst) (Kd.dft (Kd.int IntKind.u8)) = (255 : Int)) = true →
                                                                          (decide (List.getD z.fst (Int.toNat y_1.fst) (Kd.dft (Kd.int IntKind.u8)) = (255 : Int)) == true) = true ∧
                                                                            ((0 : Int) ≤ IntKind.wrap IntKind.i64 (y_1.fst + (1 : Int)) ∧
                                                                                IntKind.wrap IntKind.i64 (y_1.fst + (1 : Int)) < (↑(8 : Nat) : Int) ∧
                                                                                  IntKind.wrap IntKind.i64 (y_1.fst + (1 : Int)) < (↑(List.length z.fst) : Int)) ∧
                                                                              True) ∧
                                                                        (decide (List.getD z.fst (Int.toNat y_1.fst) (Kd.dft (Kd.int IntKind.u8)) = (255 : Int)) = true →
                                                                            (decide (List.getD z.fst (Int.toNat y_1.fst) (Kd.dft (Kd.int IntKind.u8)) = (255 : Int)) == true) = true ∧ True) ∧
                                                                          (decide (List.getD z.fst (Int.toNat y_1.fst) (Kd.dft (Kd.int IntKind.u8)) = (255 : Int)) = true →
                                                                              (decide (List.getD z.fst (Int.toNat y_1.fst) (Kd.dft (Kd.int IntKind.u8)) = (255 : Int)) == true) = true ∧ True) ∧
                                                                            (decide (List.getD z.fst (Int.toNat y_1.fst) (Kd.dft (Kd.int IntKind.u8)) = (255 : Int)) = true →
                                                                                (decide (List.getD z.fst (Int.toNat y_1.fst) (Kd.dft (Kd.int IntKind.u8)) = (255 : Int)) == true) = true) ∧
                                                                              ((bif decide (List.getD z.fst (Int.toNat y_1.fst) (Kd.dft (Kd.int IntKind.u8)) = (255 : Int)) then
                                                                                      decide
                                                                                        ((128 : Int) ≤
                                                                                          List.getD z.fst (Int.toNat (IntKind.wrap IntKind.i64 (y_1.fst + (1 : Int)))) (Kd.dft (Kd.int IntKind.u8)))
                                                                                    else false) =
                                                                                    true →
                                                                                  decide (y.fst < (8 : Int)) = decide (y.fst < (8 : Int)) ∧
                                                                                    y.fst = y.fst ∧
                                                                                      Value.slice none (0 : Nat) (0 : Nat) = Value.slice none (0 : Nat) (0 : Nat) ∧
                                                                                        x.fst = x.fst ∧
                                                                                          z.fst = z.fst ∧
                                                                                            I (IntKind.wrap IntKind.i64 (y_1.fst + (1 : Int)), ()) () ∧
                                                                                              μ (IntKind.wrap IntKind.i64 (y_1.fst + (1 : Int)), ()) () < μ y_1 z_1) ∧
                                                                                ((bif decide (List.getD z.fst (Int.toNat y_1.fst) (Kd.dft (Kd.int IntKind.u8)) = (255 : Int)) then
                                                                                      decide
                                                                                        ((128 : Int) ≤
                                                                                          List.getD z.fst (Int.toNat (IntKind.wrap IntKind.i64 (y_1.fst + (1 : Int)))) (Kd.dft (Kd.int IntKind.u8)))
                                                                                    else false) =
                                                                                    false →
                                                                                  ((0 : Int) ≤ y_1.fst ∧ y_1.fst ≤ (↑(8 : Nat) : Int)) ∧
                                                                                    List.length z.fst = (8 : Nat) ∧
                                                                                      List.length (List.take ((8 : Nat) - Int.toNat y_1.fst) (List.drop (Int.toNat y_1.fst) z.fst)) ≤ (1000000000 : Nat) ∧
                                                                                        ∀ (y : List Int × Unit),
                                                                                          Kd.wf (Kd.sl (Kd.int IntKind.u8)) y.fst ∧ True →
                                                                                            y.fst = List.take ((8 : Nat) - Int.toNat y_1.fst) (List.drop (Int.toNat y_1.fst) z.fst) →
                                                                                              y.fst = IntD x.fst))) ∧
                                            (decide (y_1.fst < (7 : Int)) = false →
                                              ((0 : Int) ≤ y_1.fst ∧ y_1.fst ≤ (↑(8 : Nat) : Int)) ∧
                                                List.length z.fst = (8 : Nat) ∧
                                                  List.length (List.take ((8 : Nat) - Int.toNat y_1.fst) (List.drop (Int.toNat y_1.fst) z.fst)) ≤ (1000000000 : Nat) ∧
                                                    ∀ (y : List Int × Unit),
                                                      Kd.wf (Kd.sl (Kd.int IntKind.u8)) y.fst ∧ True →
                                                        y.fst = List.take ((8 : Nat) - Int.toNat y_1.fst) (List.drop (Int.toNat y_1.fst) z.fst) → y.fst = IntD x.fst))
theorem e10 : t10 = Con.vc c10 (mkEnv ty [(20, conSem c20)] [0, 2, 3, 4, 5, 6, 7, 19, 20]) {} Try.f10.ntmps Try.f10.results.toList (bodyOf Try.f10) := by kernel_rfl
theorem k10 : t10 := by
  unfold t10
  rintro ⟨x, u⟩ hx hp
  simp only at hx hp ⊢
  have hx3 : fit x 8 := fit8 hx.1
  refine ⟨by decide, fun y z => 0 ≤ y.1 ∧ y.1 ≤ 8 ∧ z.1.length = 8 ∧ ∀ i : Nat, (i : Int) < y.1 → z.1[i]? = (low x 8)[i]?, fun y _ => (8 - y.1).toNat, ⟨by trivial, by trivial, by omega, by omega, rfl, fun i h => by omega⟩, ?_⟩
  rintro ⟨i, u⟩ ⟨z, u'⟩ hw hw2 ⟨h1, h2, h3, h4⟩
  simp only at h1 h2 h3 h4 hw hw2 ⊢
  refine ⟨fun hc => ?_, fun hc => ?_⟩
  · have hc := of_decide_eq_true hc
    obtain ⟨n, rfl⟩ : ∃ n : Nat, i = n := ⟨i.toNat, by omega⟩
    have hwr : IntKind.wrap .i64 ((n : Int) + 1) = n + 1 := by rw [IntKind.wrap_i64]; omega
    rw [byte_i64 x n (by omega), hwr]
    refine ⟨by rw [IntKind.wrap_i64, IntKind.wrap_i64]; omega, by omega, by trivial, by trivial, ⟨by omega, by omega, by rw [List.length_set]; exact h3, fun j hj => ?_⟩, by omega⟩
    rw [Int.toNat_natCast, List.getElem?_set]
    split
    · rename_i e
      subst e
      rw [if_pos (by omega), low_at x n (by omega)]
    · exact h4 j (by omega)
  · have hc := of_decide_eq_false hc
    have hi : i = 8 := by omega
    have hz : z = low x 8 := List.ext_getElem? fun j => by
      by_cases hj : j < 8
      · exact h4 j (by omega)
      · rw [List.getElem?_eq_none (by omega), List.getElem?_eq_none (by rw [low_len]; omega)]
    subst hz
    refine ⟨fun y _ => 0 ≤ y.1 ∧ y.1 ≤ 7 ∧ fit x (8 - y.1.toNat), fun y _ => (8 - y.1).toNat, ⟨by trivial, by trivial, by trivial, by trivial, by trivial, by omega, by omega, hx3⟩, ?_⟩
    rintro ⟨j, u⟩ u' hw _ ⟨h5, h6, h7⟩
    simp only at h5 h6 h7 hw ⊢
    obtain ⟨n, rfl⟩ : ∃ n : Nat, j = n := ⟨j.toNat, by omega⟩
    rw [Int.toNat_natCast] at h7 ⊢
    have hwr : IntKind.wrap .i64 ((n : Int) + 1) = n + 1 := by rw [IntKind.wrap_i64]; omega
    have hlen : ((low x 8).drop n |>.take (8 - n)).length ≤ 1000000000 := by rw [List.length_take]; omega
    have hfin : n = 7 ∨ ¬ fit x (7 - n) → ∀ y : List Int × Unit, Kd.wf (Kd.sl (Kd.int .u8)) y.1 ∧ True → y.1 = ((low x 8).drop n).take (8 - n) → y.1 = IntD x :=
      fun h y _ e => by rw [e]; exact rest x n (by omega) h7 h
    refine ⟨fun hc => ?_, fun hc => ?_⟩
    · have hc := of_decide_eq_true hc
      have hst := fit_step x n (by omega) h7
      rw [hwr, show ((n : Int) + 1).toNat = n + 1 by omega]
      have hd : Kd.dft (Kd.int .u8) = (0 : Int) := rfl
      rw [hd]
      generalize ea : (low x 8).getD n 0 = a at hst ⊢
      generalize eb : (low x 8).getD (n + 1) 0 = b at hst ⊢
      have hnext : fit x (7 - n) → (0 ≤ (n : Int) + 1 ∧ (n : Int) + 1 ≤ 7 ∧ fit x (8 - ((n : Int) + 1).toNat)) := fun h => ⟨by omega, by omega, by rw [show 8 - ((n : Int) + 1).toNat = 7 - n by omega]; exact h⟩
      have hlow : ((low x 8).length : Int) = 8 := by rw [low_len]; rfl
      have hrange : (0 : Int) ≤ (n : Int) + 1 ∧ (n : Int) + 1 < ((8 : Nat) : Int) ∧ (n : Int) + 1 < ((low x 8).length : Int) := by rw [hlow]; omega
      refine ⟨by rw [hlow]; omega, fun _ => trivial, fun h => ⟨by simp [h], trivial⟩, fun h => ⟨by simp [h], hrange, trivial⟩, fun h => ⟨by simp [h], trivial⟩, fun h => ⟨by simp [h], trivial⟩, fun h => by simp [h], ?_, ?_⟩
      · refine fun hb => ⟨fun _ => ⟨by trivial, by trivial, by trivial, by trivial, by trivial, ?_, by omega⟩, fun hb2 => ?_⟩
        · have hb' : a = 0 ∧ b < 128 := by simpa using hb
          exact hnext (hst.1 (.inl hb'))
        · rw [hb] at hb2; cases hb2
      · refine fun hb => ⟨by rw [hlow]; omega, fun _ => trivial, fun h => ⟨by simp [h], trivial⟩, fun h => ⟨by simp [h], hrange, trivial⟩, fun h => ⟨by simp [h], trivial⟩, fun h => ⟨by simp [h], trivial⟩, fun h => by simp [h], ?_, ?_⟩
        · refine fun hb3 => ⟨by trivial, by trivial, by trivial, by trivial, by trivial, ?_, by omega⟩
          have hb' : a = 255 ∧ 128 ≤ b := by simpa using hb3
          exact hnext (hst.1 (.inr hb'))
        · refine fun hb3 => ⟨by omega, low_len x 8, hlen, hfin (.inr fun hf => ?_)⟩
          rcases hst.2 hf with h | h
          · simp [h.1, h.2] at hb
          · simp [h.1, h.2] at hb3
    · have hc := of_decide_eq_false hc
      exact ⟨by omega, low_len x 8, hlen, hfin (.inl (by omega))⟩
theorem h10 : c10.ok Try.prog 10 := con_ok (E := mkEnv ty [(20, conSem c20)] [0, 2, 3, 4, 5, 6, 7, 19, 20]) (H := {}) (mkEnv_ok _ tyOk (by kernel_rfl) ⟨h20.call, trivial⟩) (by kernel_rfl) (by kernel_rfl) (Eq.mp e10 k10)

def t11 : Prop :=
  ∀ (x : Int × Unit),
    Kd.wf (Kd.int IntKind.i64) x.fst ∧ True →
      True →
        ∃ (I : Int × Unit → List Int × Unit → Prop),
          ∃ (μ : Int × Unit → List Int × Unit → Nat),
            (x.fst = x.fst ∧ I ((1 : Int), ()) ([], ())) ∧
              ∀ (y : Int × Unit) (z : List Int × Unit),
                Kd.wf (Kd.int IntKind.i64) y.fst ∧ True →
                  Kd.wf (Kd.sl (Kd.int IntKind.u8)) z.fst ∧ True →
                    I y z →
                      (decide (y.fst < (8 : Int)) = true →
                          (0 : Int) ≤ IntKind.wrap IntKind.i64 (IntKind.wrap IntKind.i64 ((8 : Int) * y.fst) - (1 : Int)) ∧
                            (decide
                                    (IntKind.wrap IntKind.i64
                                        ((0 : Int) -
                                          IntKind.wrap IntKind.i64
                                            ((1 : Int) * (2 : Int) ^ min (Int.toNat (IntKind.wrap IntKind.i64 (IntKind.wrap IntKind.i64 ((8 : Int) * y.fst) - (1 : Int)))) (64 : Nat))) ≤
                                      x.fst) =
                                  true →
                                True) ∧
                              (decide
                                      (IntKind.wrap IntKind.i64
                                          ((0 : Int) -
                                            IntKind.wrap IntKind.i64
                                              ((1 : Int) * (2 : Int) ^ min (Int.toNat (IntKind.wrap IntKind.i64 (IntKind.wrap IntKind.i64 ((8 : Int) * y.fst) - (1 : Int)))) (64 : Nat))) ≤
                                        x.fst) =
                                    true →
                                  True) ∧
                                (decide
                                        (IntKind.wrap IntKind.i64
                                            ((0 : Int) -
                                              IntKind.wrap IntKind.i64
                                                ((1 : Int) * (2 : Int) ^ min (Int.toNat (IntKind.wrap IntKind.i64 (IntKind.wrap IntKind.i64 ((8 : Int) * y.fst) - (1 : Int)))) (64 : Nat))) ≤
                                          x.fst) =
                                      true →
                                    (decide
                                            (IntKind.wrap IntKind.i64
                                                ((0 : Int) -
                                                  IntKind.wrap IntKind.i64
                                                    ((1 : Int) * (2 : Int) ^ min (Int.toNat (IntKind.wrap IntKind.i64 (IntKind.wrap IntKind.i64 ((8 : Int) * y.fst) - (1 : Int)))) (64 : Nat))) ≤
                                              x.fst) ==
                                          true) =
                                        true ∧
                                      (decide
                                              (IntKind.wrap IntKind.i64
                                                  ((0 : Int) -
                                                    IntKind.wrap IntKind.i64
                                                      ((1 : Int) * (2 : Int) ^ min (Int.toNat (IntKind.wrap IntKind.i64 (IntKind.wrap IntKind.i64 ((8 : Int) * y.fst) - (1 : Int)))) (64 : Nat))) ≤
                                                x.fst) ==
                                            true) =
                                          true ∧
                                        True) ∧
                                  (decide
                                          (IntKind.wrap IntKind.i64
                                              ((0 : Int) -
                                                IntKind.wrap IntKind.i64
                                                  ((1 : Int) * (2 : Int) ^ min (Int.toNat (IntKind.wrap IntKind.i64 (IntKind.wrap IntKind.i64 ((8 : Int) * y.fst) - (1 : Int)))) (64 : Nat))) ≤
                                            x.fst) =
                                        true →
                                      (decide
                                            (IntKind.wrap IntKind.i64
                                                ((0 : Int) -
                                                  IntKind.wrap IntKind.i64
                                                    ((1 : Int) * (2 : Int) ^ min (Int.toNat (IntKind.wrap IntKind.i64 (IntKind.wrap IntKind.i64 ((8 : Int) * y.fst) - (1 : Int)))) (64 : Nat))) ≤
                                              x.fst) ==
                                          true) =
                                        true) ∧
                                    ((bif
                                              decide
                                                (IntKind.wrap IntKind.i64
                                                    ((0 : Int) -
                                                      IntKind.wrap IntKind.i64
                                                        ((1 : Int) * (2 : Int) ^ min (Int.toNat (IntKind.wrap IntKind.i64 (IntKind.wrap IntKind.i64 ((8 : Int) * y.fst) - (1 : Int)))) (64 : Nat))) ≤
                                                  x.fst) then
                                            decide
                                              (x.fst <
                                                IntKind.wrap IntKind.i64
                                                  ((1 : Int) * (2 : Int) ^ min (Int.toNat (IntKind.wrap IntKind.i64 (IntKind.wrap IntKind.i64 ((8 : Int) * y.fst) - (1 : Int)))) (64 : Nat)))
                                          else false) =
                                          true →
                                        ((0 : Int) ≤ y.fst ∧ y.fst ≤ (8 : Int)) ∧
                                          ∀ (y_1 : List Int × Unit), Kd.wf (Kd.sl (Kd.int IntKind.u8)) y_1.fst ∧ True → y_1.fst = low x.fst (Int.toNat y.fst) → y_1.fst = IntD x.fst) ∧
                                      ((bif
                                              decide
                                                (IntKind.wrap IntKind.i64
                                                    ((0 : Int) -
                                                      IntKind.wrap IntKind.i64
                                                        ((1 : Int) * (2 : Int) ^ min (Int.toNat (IntKind.wrap IntKind.i64 (IntKind.wrap IntKind.i64 ((8 : Int) * y.fst) - (1 : Int)))) (64 : Nat))) ≤
                                                  x.fst) then
                                            decide
                                              (x.fst <
                                                IntKind.wrap IntKind.i64
                                                  ((1 : Int) * (2 : Int) ^ min (Int.toNat (IntKind.wrap IntKind.i64 (IntKind.wrap IntKind.i64 ((8 : Int) * y.fst) - (1 : Int)))) (64 : Nat)))
                                          else false) =
                                          false →
                                        x.fst = x.fst ∧ I (IntKind.wrap IntKind.i64 (y.fst + (1 : Int)), ()) (z.fst, ()) ∧ μ (IntKind.wrap IntKind.i64 (y.fst + (1 : Int)), ()) (z.fst, ()) < μ y z)) ∧
                        (decide (y.fst < (8 : Int)) = false →
                          ((0 : Int) ≤ (8 : Int) ∧ (8 : Int) ≤ (8 : Int)) ∧
                            ∀ (y : List Int × Unit), Kd.wf (Kd.sl (Kd.int IntKind.u8)) y.fst ∧ True → y.fst = low x.fst (Int.toNat (8 : Int)) → y.fst = IntD x.fst)
theorem e11 : t11 = Con.vc c11 (mkEnv ty [(21, conSem c21)] [0, 2, 3, 4, 6, 21]) {} Try.f11.ntmps Try.f11.results.toList (bodyOf Try.f11) := by kernel_rfl
theorem k11 : t11 := by
  unfold t11
  rintro ⟨x, u⟩ hx hp
  simp only at hx hp ⊢
  have hx2 : InR .i64 x := hx.1
  have hx3 : fit x 8 := fit8 hx2
  refine ⟨fun y z => 1 ≤ y.1 ∧ y.1 ≤ 8 ∧ ∀ m : Nat, (m : Int) < y.1 → 1 ≤ m → ¬ fit x m, fun y _ => (8 - y.1).toNat, ⟨by trivial, by omega, by omega, fun m h1 h2 => by omega⟩, ?_⟩
  rintro ⟨i, u⟩ ⟨z, u'⟩ hw hw2 ⟨h1, h2, h3⟩
  simp only at h1 h2 h3 hw hw2 ⊢
  refine ⟨fun hc => ?_, fun hc => ?_⟩
  · have hc := of_decide_eq_true hc
    obtain ⟨n, rfl⟩ : ∃ n : Nat, i = n := ⟨i.toNat, by omega⟩
    have hwr : IntKind.wrap .i64 ((n : Int) + 1) = n + 1 := by rw [IntKind.wrap_i64]; omega
    have e1 : IntKind.wrap .i64 (1 * 2 ^ min (IntKind.wrap .i64 (IntKind.wrap .i64 (8 * (n : Int)) - 1)).toNat 64) = 2 ^ (8 * n - 1) ∧ IntKind.wrap .i64 (0 - 2 ^ (8 * n - 1)) = -2 ^ (8 * n - 1) := by
      match n, h1, hc with
      | 1, _, _ | 2, _, _ | 3, _, _ | 4, _, _ | 5, _, _ | 6, _, _ | 7, _, _ => decide
      | 0, h, _ => exact absurd h (by decide)
      | n + 8, _, h => omega
    rw [e1.1, e1.2]
    refine ⟨by rw [IntKind.wrap_i64, IntKind.wrap_i64]; omega, by simp, by simp, by simp, by simp, fun hb => ?_, fun hb => ?_⟩
    · refine ⟨by omega, fun y _ e => ?_⟩
      rw [e, IntD, wide_eq x n (by omega) (by omega) (by simpa [fit] using hb) ?_]
      · rfl
      · by_cases e : n = 1
        · exact .inl e
        · exact .inr (h3 (n - 1) (by omega) (by omega))
    · refine ⟨by trivial, ?_, by rw [hwr]; omega⟩
      rw [hwr]
      refine ⟨by omega, by omega, fun m hm h1m => ?_⟩
      by_cases e : m = n
      · subst e
        simpa [fit] using hb
      · exact h3 m (by omega) h1m
  · have hc := of_decide_eq_false hc
    have : i = 8 := by omega
    subst this
    refine ⟨by decide, fun y _ e => ?_⟩
    rw [e, IntD, wide_eq x 8 (by omega) (by omega) hx3 (.inr (h3 7 (by omega) (by omega)))]
    rfl
theorem h11 : c11.ok Try.prog 11 := con_ok (E := mkEnv ty [(21, conSem c21)] [0, 2, 3, 4, 6, 21]) (H := {}) (mkEnv_ok _ tyOk (by kernel_rfl) ⟨h21.call, trivial⟩) (by kernel_rfl) (by kernel_rfl) (Eq.mp e11 k11)

def t4 : Prop :=
  ∀ (x : Int × Unit),
    Kd.wf (Kd.int IntKind.i64) x.fst ∧ True →
      ABulk [AK.dat (Kd.int IntKind.i64)] x ≤ (1048576 : Nat) →
        True ∧
          ∀ (y : List Int × Unit),
            Kd.wf (Kd.sl (Kd.int IntKind.u8)) y.fst ∧ True →
              y.fst = IntD x.fst →
                True ∧
                  ∀ (y_1 : List Int × Unit),
                    Kd.wf (Kd.sl (Kd.int IntKind.u8)) y_1.fst ∧ True →
                      y_1.fst = IntD x.fst →
                        True ∧
                          ∀ (y_2 : List Int × Unit),
                            Kd.wf (Kd.sl (Kd.int IntKind.u8)) y_2.fst ∧ True →
                              y_2.fst = IntD x.fst →
                                List.length y.fst ≤ (1000000000 : Nat) ∧
                                  ∀ (y_3 : Bool × Unit),
                                    Kd.wf Kd.bool y_3.fst ∧ True →
                                      (y.fst = y_2.fst → y_1.fst = y_2.fst → y_3.fst = true) →
                                        (y_3.fst = true → True) ∧
                                          (y_3.fst = true → (y_3.fst == true) = true ∧ (2 : Int) ≠ (0 : Int) ∧ True) ∧
                                            (y_3.fst = true → (y_3.fst == true) = true ∧ True) ∧
                                              (y_3.fst = true →
                                                  (y_3.fst == true) = true ∧
                                                    True ∧
                                                      ∀ (y : List Int × Unit),
                                                        Kd.wf (Kd.sl (Kd.int IntKind.u8)) y.fst ∧ True →
                                                          y.fst = BoolD (decide (Int.tmod x.fst (2 : Int) = (0 : Int))) →
                                                            (2 : Int) ≠ (0 : Int) ∧
                                                              True ∧
                                                                ∀ (y_4 : List Int × Unit),
                                                                  Kd.wf (Kd.sl (Kd.int IntKind.u8)) y_4.fst ∧ True →
                                                                    y_4.fst = BoolD (decide (Int.tmod x.fst (2 : Int) = (0 : Int))) →
                                                                      (2 : Int) ≠ (0 : Int) ∧
                                                                        True ∧
                                                                          ∀ (y_5 : List Int × Unit),
                                                                            Kd.wf (Kd.sl (Kd.int IntKind.u8)) y_5.fst ∧ True →
                                                                              y_5.fst = BoolD (decide (Int.tmod x.fst (2 : Int) = (0 : Int))) →
                                                                                List.length y.fst ≤ (1000000000 : Nat) ∧
                                                                                  ∀ (y_6 : Bool × Unit),
                                                                                    Kd.wf Kd.bool y_6.fst ∧ True →
                                                                                      (y.fst = y_5.fst → y_4.fst = y_5.fst → y_6.fst = true) →
                                                                                        (y_6.fst = true → True ∧ ∀ (y : Bool × Unit), Kd.wf Kd.bool y.fst ∧ True → y.fst = true → y.fst = true) ∧
                                                                                          (y_6.fst = !true → false = true)) ∧
                                                (y_3.fst = !true →
                                                  (false = true → True ∧ ∀ (y : Bool × Unit), Kd.wf Kd.bool y.fst ∧ True → y.fst = true → y.fst = true) ∧ (false = !true → false = true))
theorem e4 : t4 = Con.vc c4 (mkEnv ty [(10, conSem c10), (11, conSem c11), (6, conSem c6), (12, conSem c12), (13, conSem c13), (9, conSem c9)] [0, 2]) {} Try.f4.ntmps Try.f4.results.toList (bodyOf Try.f4) := by kernel_rfl
theorem k4 : t4 := by
  unfold t4
  intro x hx hp
  refine ⟨trivial, fun y hy ey => ⟨trivial, fun y1 hy1 ey1 => ⟨trivial, fun y2 hy2 ey2 => ⟨?_, fun y3 hy3 ey3 => ?_⟩⟩⟩⟩
  · have : ∀ n k, wide x.1 n k ≤ 8 ∨ wide x.1 n k ≤ n + k := by
      intro n k
      induction k generalizing n with
      | zero => simp [wide]
      | succ k ih =>
        simp only [wide]
        split
        · right; omega
        · have := ih (n + 1); omega
    rw [ey, IntD, low_len]
    have := this 1 7
    omega
  · have e3 : y3.1 = true := ey3 (ey.trans ey2.symm) (ey1.trans ey2.symm)
    have hbl : ∀ b, (BoolD b).length ≤ 1000000000 := by intro b; cases b <;> decide
    simp only [e3]
    refine ⟨fun _ => trivial, fun _ => ⟨rfl, by decide, trivial⟩, fun _ => ⟨rfl, trivial⟩, fun _ => ⟨rfl, trivial, fun y _ ey => ⟨by decide, trivial, fun y4 _ ey4 => ⟨by decide, trivial, fun y5 _ ey5 => ⟨by rw [ey]; exact hbl _, fun y6 _ ey6 => ?_⟩⟩⟩⟩, fun h => by cases h⟩
    have e6 : y6.1 = true := ey6 (ey.trans ey5.symm) (ey4.trans ey5.symm)
    simp only [e6]
    exact ⟨fun _ => ⟨trivial, fun y _ h => h⟩, fun h => by cases h⟩
theorem h4 : c4.ok Try.prog 4 := con_ok (E := mkEnv ty [(10, conSem c10), (11, conSem c11), (6, conSem c6), (12, conSem c12), (13, conSem c13), (9, conSem c9)] [0, 2]) (H := {}) (mkEnv_ok _ tyOk (by kernel_rfl) ⟨h10.call, h11.call, h6.call, h12.call, h13.call, h9.call, trivial⟩) (by kernel_rfl) (by kernel_rfl) (Eq.mp e4 k4)

end Go.Proofs.Ytgikinbkhhfgiaa
