/- Walks. -/
import Derived.Test.YtgikinbkhhfgiaaZA
set_option linter.unusedVariables false
set_option linter.unusedSimpArgs false
namespace Go.Proofs.Ytgikinbkhhfgiaa
open Go Go.Vc Go.Proofs
set_option linter.unusedVariables false
set_option linter.unusedSimpArgs false
theorem and_low (b : Int) (n : Nat) (h0 : 0 ≤ b) (h1 : b ≤ 255) (hn : n ≤ 7) : IntKind.wrap .u8 ↑(BitVec.ofInt 8 b &&& BitVec.ofInt 8 (IntKind.wrap .u8 (IntKind.wrap .u8 (1 * 2 ^ min n 8) - 1))).toNat = b % 2 ^ n := by
  have key : ∀ b : Fin 256, ∀ n : Fin 8, IntKind.wrap .u8 ↑(BitVec.ofInt 8 (b.val : Int) &&& BitVec.ofInt 8 (IntKind.wrap .u8 (IntKind.wrap .u8 (1 * 2 ^ min n.val 8) - 1))).toNat = (b.val : Int) % 2 ^ n.val := by decide +kernel
  have := key ⟨b.toNat, by omega⟩ ⟨n, by omega⟩
  simpa [Int.toNat_of_nonneg h0] using this
theorem byte_get {l : List Int} (h : Kd.wf BY l) (i : Nat) : 0 ≤ l.getD i 0 ∧ l.getD i 0 ≤ 255 := by
  by_cases hi : i < l.length
  · have := h.2 l[i] (List.getElem_mem hi)
    rw [List.getD_eq_getElem?_getD, List.getElem?_eq_getElem hi]
    have h2 : InR .u8 l[i] := this
    simpa [InR, IntKind.min, IntKind.max, IntKind.signed, IntKind.bits] using h2
  · rw [List.getD_eq_getElem?_getD, List.getElem?_eq_none (by omega)]
    decide
theorem last_get (l : List Int) (h : l ≠ []) : l.getD (l.length - 1) 0 = l.getLastD 0 := by
  rw [List.getD_eq_getElem?_getD, ← List.getLast?_eq_getElem?, List.getLastD_eq_getLast?]
theorem pow7 (j : Nat) (h : j ≤ 7) : (2 : Int) ^ j ≤ 128 ∧ 0 < (2 : Int) ^ j := by
  have key : ∀ j : Fin 8, (2 : Int) ^ j.val ≤ 128 ∧ 0 < (2 : Int) ^ j.val := by decide +kernel
  exact key ⟨j, by omega⟩
theorem wrapk (i : Int) (h0 : -9000000000000000000 ≤ i) (h1 : i ≤ 9000000000000000000) : IntKind.wrap .i64 i = i := by rw [IntKind.wrap_i64]; omega
theorem flat_bound (xs : List (List Int)) (h1 : xs.length ≤ 100) (h2 : ∀ l ∈ xs, l.length ≤ 10000000) (n : Nat) : (xs.take n).flatten.length ≤ 1000000000 := by
  have key : ∀ ys : List (List Int), (∀ l ∈ ys, l.length ≤ 10000000) → ys.flatten.length ≤ ys.length * 10000000 := by
    intro ys
    induction ys with
    | nil => intro _; simp
    | cons y ys ih =>
      intro h
      have h3 := ih (fun l hl => h l (List.mem_cons_of_mem _ hl))
      have h4 := h y (by simp)
      simp only [List.flatten_cons, List.length_append, List.length_cons]
      omega
  have h3 := key (xs.take n) (fun l hl => h2 l (List.mem_of_mem_take hl))
  have h4 : (xs.take n).length ≤ xs.length := by simp; omega
  have : (xs.take n).length * 10000000 ≤ 100 * 10000000 := Nat.mul_le_mul_right _ (by omega)
  omega
theorem take_flat (xs : List (List Int)) (i : Nat) (h : i < xs.length) : (xs.take (i + 1)).flatten = (xs.take i).flatten ++ xs.getD i [] := by
  rw [List.take_add_one, List.flatten_append, List.getD_eq_getElem?_getD, List.getElem?_eq_getElem h]
  simp
theorem flat_loop (xs : List (List Int)) (hp : xs.length ≤ 100) (hb : ∀ n, (xs.take n).flatten.length ≤ 1000000000) (z0 : List Int) (hz : z0 = []) :
    ∃ (I : Int × Unit → List Int × Unit → Prop) (μ : Int × Unit → List Int × Unit → Nat), I (0, ()) (z0, ()) ∧ ∀ (y_1 : Int × Unit) (z : List Int × Unit),
      (Kd.int IntKind.i64).wf y_1.fst → (Kd.int IntKind.u8).sl.wf z.fst → I y_1 z →
        (y_1.fst < ↑xs.length → (0 ≤ y_1.fst ∧ y_1.fst < ↑xs.length) ∧ 0 < 1 ∧ z.fst.length + (xs.getD y_1.fst.toNat []).length ≤ 140737488355328 ∧
          z.fst.length + (xs.getD y_1.fst.toNat []).length ≤ 9223372036854775807 ∧ I (IntKind.i64.wrap (y_1.fst + 1), ()) (z.fst ++ xs.getD y_1.fst.toNat [], ()) ∧
            μ (IntKind.i64.wrap (y_1.fst + 1), ()) (z.fst ++ xs.getD y_1.fst.toNat [], ()) < μ y_1 z) ∧
        (¬y_1.fst < ↑xs.length → z.fst = xs.flatten) := by
  refine ⟨fun y z => 0 ≤ y.1 ∧ y.1 ≤ xs.length ∧ z.1 = (xs.take y.1.toNat).flatten, fun y z => xs.length - y.1.toNat, ⟨by simp, by simp, by simp [hz]⟩, ?_⟩
  rintro ⟨i, _⟩ ⟨r, _⟩ hy hz ⟨h0, h1, h2⟩
  simp only at h0 h1 h2 ⊢
  refine ⟨fun hlt => ?_, fun hge => ?_⟩
  · have hw : IntKind.wrap .i64 (i + 1) = i + 1 := wrapk _ (by omega) (by omega)
    have e := take_flat xs i.toNat (by omega)
    have hl := hb (i.toNat + 1)
    rw [e, List.length_append, ← h2] at hl
    rw [hw]
    refine ⟨⟨h0, hlt⟩, by decide, by omega, by omega, ⟨by omega, by omega, ?_⟩, by omega⟩
    rw [show (i + 1).toNat = i.toNat + 1 by omega, e, h2]
  · rw [h2, show i.toNat = xs.length by omega, List.take_length]
theorem sum_ones {α : Type} (l : List α) : (l.map fun _ => 1).sum = l.length := by
  induction l with
  | nil => rfl
  | cons _ _ ih => simp [ih]; omega
def t20 : Prop :=
  ∀ (x : List Int × Unit),
    Kd.wf (Kd.sl (Kd.int IntKind.u8)) x.fst ∧ True →
      List.length x.fst ≤ (1000000000 : Nat) →
        ∀ (b : Bool),
          (b = true → x.fst = []) →
            (b = true → [] = x.fst) ∧
              (b = false →
                (0 : Nat) < (1 : Nat) ∧ ((0 : Nat) + List.length x.fst) * (1 : Nat) ≤ (140737488355328 : Nat) ∧ (0 : Nat) + List.length x.fst ≤ (9223372036854775807 : Nat) ∧ [] ++ x.fst = x.fst)
theorem e20 : t20 = Con.vc c20 GL (mkEnv ty [] [] [] [0, 2, 4]) {} Try.f20.ntmps Try.f20.results.toList (bodyOf Try.f20) := by kernel_rfl
theorem k20 : t20 := by
  unfold t20
  intro x hx hp b hb
  refine ⟨fun h => (hb h).symm, fun _ => ⟨by decide, by omega, by omega, rfl⟩⟩
theorem h20 : c20.ok Try.prog GL 20 := con_ok (H := {}) (mkEnv_ok (gl := GL) (l := []) (q := []) (d := []) _ tyOk (by kernel_rfl) trivial trivial trivial) (by kernel_rfl) (by kernel_rfl) (Eq.mp e20 k20)

def t6 : Prop :=
  ∀ (x : List Int × List Int × List Int × Unit),
    Kd.wf (Kd.sl (Kd.int IntKind.u8)) x.fst ∧ Kd.wf (Kd.sl (Kd.int IntKind.u8)) x.snd.fst ∧ Kd.wf (Kd.sl (Kd.int IntKind.u8)) x.snd.snd.fst ∧ True →
      List.length x.fst ≤ (1000000000 : Nat) →
        (decide (x.fst ≠ x.snd.snd.fst) = true → x.fst = x.snd.snd.fst → x.snd.fst = x.snd.snd.fst → false = true) ∧
          (decide (x.fst ≠ x.snd.snd.fst) = false →
            ∃ (I : Int × Unit → List Int × Unit → Prop),
              ∃ (μ : Int × Unit → List Int × Unit → Nat),
                (Value.bool false = Value.bool false ∧ Value.bool false = Value.bool false ∧ x.snd.fst = x.snd.fst ∧ x.snd.snd.fst = x.snd.snd.fst ∧ I ((0 : Int), ()) (x.fst, ())) ∧
                  ∀ (y : Int × Unit) (z : List Int × Unit),
                    Kd.wf (Kd.int IntKind.i64) y.fst ∧ True →
                      Kd.wf (Kd.sl (Kd.int IntKind.u8)) z.fst ∧ True →
                        I y z →
                          (decide (y.fst < (↑(List.length z.fst) : Int)) = true →
                              ((0 : Int) ≤ y.fst ∧ y.fst < (↑(List.length z.fst) : Int)) ∧
                                ((0 : Int) ≤ y.fst ∧ y.fst < (↑(List.length z.fst) : Int)) ∧
                                  Value.bool false = Value.bool false ∧
                                    Value.bool false = Value.bool false ∧
                                      x.snd.fst = x.snd.fst ∧
                                        x.snd.snd.fst = x.snd.snd.fst ∧
                                          I (IntKind.wrap IntKind.i64 (y.fst + (1 : Int)), ())
                                              (List.set z.fst (Int.toNat y.fst) (IntKind.wrap IntKind.u8 (List.getD z.fst (Int.toNat y.fst) (Kd.dft (Kd.int IntKind.u8)) + (1 : Int))), ()) ∧
                                            μ (IntKind.wrap IntKind.i64 (y.fst + (1 : Int)), ())
                                                (List.set z.fst (Int.toNat y.fst) (IntKind.wrap IntKind.u8 (List.getD z.fst (Int.toNat y.fst) (Kd.dft (Kd.int IntKind.u8)) + (1 : Int))), ()) <
                                              μ y z) ∧
                            (decide (y.fst < (↑(List.length z.fst) : Int)) = false →
                              (0 : Nat) < (1 : Nat) ∧
                                (List.length z.fst + (2 : Nat)) * (1 : Nat) ≤ (140737488355328 : Nat) ∧
                                  List.length z.fst + (2 : Nat) ≤ (9223372036854775807 : Nat) ∧ (x.fst = x.snd.snd.fst → x.snd.fst = x.snd.snd.fst → decide (x.snd.fst = x.snd.snd.fst) = true)))
theorem e6 : t6 = Con.vc c6 GL (mkEnv ty [] [] [] [0, 1, 2, 6, 7, 12, 16]) {} Try.f6.ntmps Try.f6.results.toList (bodyOf Try.f6) := by kernel_rfl
theorem k6 : t6 := by
  unfold t6
  intro x hx hp
  refine ⟨fun h h1 => absurd h1 (of_decide_eq_true h), fun h => ⟨fun y z => 0 ≤ y.1 ∧ z.1.length ≤ 1000000000, fun y z => (z.1.length - y.1).toNat, ⟨rfl, rfl, rfl, rfl, by decide, hp⟩, ?_⟩⟩
  rintro ⟨i, u⟩ ⟨z, u'⟩ hw hw2 ⟨h1, h2⟩
  simp only at h1 h2 hw hw2 ⊢
  refine ⟨fun hc => ?_, fun hc => ⟨by decide, by omega, by omega, fun _ e => decide_eq_true e⟩⟩
  have hc := of_decide_eq_true hc
  have hwr : IntKind.wrap .i64 (i + 1) = i + 1 := by rw [IntKind.wrap_i64]; omega
  refine ⟨by omega, by omega, by trivial, by trivial, by trivial, by trivial, ?_, ?_⟩
  · rw [hwr, List.length_set]; exact ⟨by omega, h2⟩
  · rw [hwr, List.length_set]; omega
theorem h6 : c6.ok Try.prog GL 6 := con_ok (H := {}) (mkEnv_ok (gl := GL) (l := []) (q := []) (d := []) _ tyOk (by kernel_rfl) trivial trivial trivial) (by kernel_rfl) (by kernel_rfl) (Eq.mp e6 k6)

def t9 : Prop :=
  ∀ (x : Unit), True → True → true = true
theorem e9 : t9 = Con.vc c9 GL (mkEnv ty [] [] [] [0]) {} Try.f9.ntmps Try.f9.results.toList (bodyOf Try.f9) := by kernel_rfl
theorem k9 : t9 := by
  unfold t9
  intro _ _ _
  rfl
theorem h9 : c9.ok Try.prog GL 9 := con_ok (H := {}) (mkEnv_ok (gl := GL) (l := []) (q := []) (d := []) _ tyOk (by kernel_rfl) trivial trivial trivial) (by kernel_rfl) (by kernel_rfl) (Eq.mp e9 k9)

def t12 : Prop :=
  ∀ (x : Bool × Unit), Kd.wf Kd.bool x.fst ∧ True → True → (x.fst = true → [(255 : Int)] = BoolD x.fst) ∧ (x.fst = false → [(0 : Int)] = BoolD x.fst)
theorem e12 : t12 = Con.vc c12 GL (mkEnv ty [] [] [] [0, 2, 3]) {} Try.f12.ntmps Try.f12.results.toList (bodyOf Try.f12) := by kernel_rfl
theorem k12 : t12 := by
  unfold t12
  intro x _ _
  exact ⟨fun h => by rw [h]; rfl, fun h => by rw [h]; rfl⟩
theorem h12 : c12.ok Try.prog GL 12 := con_ok (H := {}) (mkEnv_ok (gl := GL) (l := []) (q := []) (d := []) _ tyOk (by kernel_rfl) trivial trivial trivial) (by kernel_rfl) (by kernel_rfl) (Eq.mp e12 k12)

def t22 : Prop :=
  ∀ (x : List Int × Int × Unit),
    Kd.wf (Kd.sl (Kd.int IntKind.u8)) x.fst ∧ Kd.wf (Kd.int IntKind.i64) x.snd.fst ∧ True →
      True →
        (decide (x.snd.fst < (0 : Int)) = false → True) ∧
          (decide (x.snd.fst < (0 : Int)) = false → (decide (x.snd.fst < (0 : Int)) == false) = true ∧ True) ∧
            (decide (x.snd.fst < (0 : Int)) = false → (decide (x.snd.fst < (0 : Int)) == false) = true) ∧
              ((bif decide (x.snd.fst < (0 : Int)) then true else decide ((7 : Int) < x.snd.fst)) = true → false = FitsD x.fst x.snd.fst) ∧
                ((bif decide (x.snd.fst < (0 : Int)) then true else decide ((7 : Int) < x.snd.fst)) = false →
                  (decide ((↑(List.length x.fst) : Int) = (0 : Int)) = true → decide (x.snd.fst = (0 : Int)) = FitsD x.fst x.snd.fst) ∧
                    (decide ((↑(List.length x.fst) : Int) = (0 : Int)) = false →
                      ((0 : Int) ≤ IntKind.wrap IntKind.i64 ((↑(List.length x.fst) : Int) - (1 : Int)) ∧
                          IntKind.wrap IntKind.i64 ((↑(List.length x.fst) : Int) - (1 : Int)) < (↑(List.length x.fst) : Int)) ∧
                        (0 : Int) ≤ x.snd.fst ∧
                          decide
                              (IntKind.wrap IntKind.u8
                                  (↑(BitVec.toNat
                                        (BitVec.ofInt (8 : Nat) (List.getD x.fst (Int.toNat (IntKind.wrap IntKind.i64 ((↑(List.length x.fst) : Int) - (1 : Int)))) (Kd.dft (Kd.int IntKind.u8))) &&&
                                          BitVec.ofInt (8 : Nat) (IntKind.wrap IntKind.u8 (IntKind.wrap IntKind.u8 ((1 : Int) * (2 : Int) ^ min (Int.toNat x.snd.fst) (8 : Nat)) - (1 : Int))))) :
                                    Int) =
                                (0 : Int)) =
                            FitsD x.fst x.snd.fst))
theorem e22 : t22 = Con.vc c22 GL (mkEnv ty [] [] [] [0, 1, 4, 5, 12]) {} Try.f22.ntmps Try.f22.results.toList (bodyOf Try.f22) := by kernel_rfl
theorem k22 : t22 := by
  unfold t22
  rintro ⟨l, n, _⟩ hx hp
  have hl : l.length ≤ 9223372036854775807 := hx.1.1
  simp only [true_and, and_true, eq_self_iff_true, implies_true, reduceCtorEq, false_implies, true_implies, decide_eq_true_eq, decide_eq_false_iff_not, beq_self_eq_true, Bool.not_eq_true', ne_eq, Decidable.not_not, List.nil_append, List.length_singleton, List.length_cons, List.length_nil, Nat.zero_add, Nat.add_zero, Nat.mul_one, and_self, beq_iff_eq, Bool.not_true, Bool.not_false, Bool.not_eq_false', Bool.cond_false_right, Bool.and_eq_true, imp_self, Bool.not_eq_true, Bool.cond_true_left, Bool.or_eq_true]
  refine ⟨fun h => by simp [FitsD, h], fun h => ?_⟩
  have h' : ¬ (n < 0 ∨ 7 < n) := by simpa using h
  refine ⟨fun h0 => ?_, fun h0 => ?_⟩
  · have : l = [] := List.eq_nil_of_length_eq_zero (by omega)
    subst this
    rw [FitsD, if_neg h', if_pos rfl]
  · have hne : l ≠ [] := fun e => h0 (by rw [e]; rfl)
    have hw : IntKind.wrap .i64 ((l.length : Int) - 1) = l.length - 1 := by rw [IntKind.wrap_i64]; omega
    have hd : Kd.dft (Kd.int .u8) = (0 : Int) := rfl
    have hb : 0 ≤ l.getD (l.length - 1) 0 ∧ l.getD (l.length - 1) 0 ≤ 255 := byte_get hx.1 (l.length - 1)
    rw [hw, hd, show ((l.length : Int) - 1).toNat = l.length - 1 by omega]
    refine ⟨by omega, by omega, ?_⟩
    rw [and_low _ n.toNat hb.1 hb.2 (by omega), last_get l hne]
    rw [FitsD, if_neg h', if_neg hne]
theorem h22 : c22.ok Try.prog GL 22 := con_ok (H := {}) (mkEnv_ok (gl := GL) (l := []) (q := []) (d := []) _ tyOk (by kernel_rfl) trivial trivial trivial) (by kernel_rfl) (by kernel_rfl) (Eq.mp e22 k22)

def t24 : Prop :=
  ∀ (x : List Int × Int × Unit),
    Kd.wf (Kd.sl (Kd.int IntKind.u8)) x.fst ∧ Kd.wf (Kd.int IntKind.i64) x.snd.fst ∧ True →
      True →
        (decide (x.snd.fst < (0 : Int)) = false → True) ∧
          (decide (x.snd.fst < (0 : Int)) = false → (decide (x.snd.fst < (0 : Int)) == false) = true ∧ True) ∧
            (decide (x.snd.fst < (0 : Int)) = false → (decide (x.snd.fst < (0 : Int)) == false) = true) ∧
              ((bif decide (x.snd.fst < (0 : Int)) then true else decide ((7 : Int) < x.snd.fst)) = true → false = FitsD x.fst x.snd.fst) ∧
                ((bif decide (x.snd.fst < (0 : Int)) then true else decide ((7 : Int) < x.snd.fst)) = false →
                  (decide ((↑(List.length x.fst) : Int) = (0 : Int)) = true → decide (x.snd.fst = (0 : Int)) = FitsD x.fst x.snd.fst) ∧
                    (decide ((↑(List.length x.fst) : Int) = (0 : Int)) = false →
                      ∃ (I : Int × Int × Unit → Unit → Prop),
                        ∃ (μ : Int × Int × Unit → Unit → Nat),
                          (Value.bool false = Value.bool false ∧
                              Value.bool false = Value.bool false ∧ Value.bool false = Value.bool false ∧ x.fst = x.fst ∧ x.snd.fst = x.snd.fst ∧ I ((0 : Int), (1 : Int), ()) ()) ∧
                            ∀ (y : Int × Int × Unit) (z : Unit),
                              Kd.wf (Kd.int IntKind.i64) y.fst ∧ Kd.wf (Kd.int IntKind.i64) y.snd.fst ∧ True →
                                True →
                                  I y z →
                                    (decide (y.fst < x.snd.fst) = true →
                                        Value.bool false = Value.bool false ∧
                                          Value.bool false = Value.bool false ∧
                                            Value.bool false = Value.bool false ∧
                                              x.fst = x.fst ∧
                                                x.snd.fst = x.snd.fst ∧
                                                  I (IntKind.wrap IntKind.i64 (y.fst + (1 : Int)), IntKind.wrap IntKind.i64 ((2 : Int) * y.snd.fst), ()) () ∧
                                                    μ (IntKind.wrap IntKind.i64 (y.fst + (1 : Int)), IntKind.wrap IntKind.i64 ((2 : Int) * y.snd.fst), ()) () < μ y z) ∧
                                      (decide (y.fst < x.snd.fst) = false →
                                        ((0 : Int) ≤ IntKind.wrap IntKind.i64 ((↑(List.length x.fst) : Int) - (1 : Int)) ∧
                                            IntKind.wrap IntKind.i64 ((↑(List.length x.fst) : Int) - (1 : Int)) < (↑(List.length x.fst) : Int)) ∧
                                          y.snd.fst ≠ (0 : Int) ∧
                                            decide
                                                (Int.tmod
                                                    (IntKind.wrap IntKind.i64
                                                      (List.getD x.fst (Int.toNat (IntKind.wrap IntKind.i64 ((↑(List.length x.fst) : Int) - (1 : Int)))) (Kd.dft (Kd.int IntKind.u8))))
                                                    y.snd.fst =
                                                  (0 : Int)) =
                                              FitsD x.fst x.snd.fst)))
theorem e24 : t24 = Con.vc c24 GL (mkEnv ty [] [] [] [0, 1, 4, 5, 6, 12, 15, 20]) {} Try.f24.ntmps Try.f24.results.toList (bodyOf Try.f24) := by kernel_rfl
theorem k24 : t24 := by
  unfold t24
  rintro ⟨l, n, _⟩ hx hp
  have hl : l.length ≤ 9223372036854775807 := hx.1.1
  simp only [true_and, and_true, eq_self_iff_true, implies_true, reduceCtorEq, false_implies, true_implies, decide_eq_true_eq, decide_eq_false_iff_not, beq_self_eq_true, Bool.not_eq_true', ne_eq, Decidable.not_not, List.nil_append, List.length_singleton, List.length_cons, List.length_nil, Nat.zero_add, Nat.add_zero, Nat.mul_one, and_self, beq_iff_eq, Bool.not_true, Bool.not_false, Bool.not_eq_false', Bool.cond_false_right, Bool.and_eq_true, imp_self, Bool.not_eq_true, Bool.cond_true_left, Bool.or_eq_true]
  refine ⟨fun h => by simp [FitsD, h], fun h => ?_⟩
  have h' : ¬ (n < 0 ∨ 7 < n) := by simpa using h
  refine ⟨fun h0 => ?_, fun h0 => ?_⟩
  · have : l = [] := List.eq_nil_of_length_eq_zero (by omega)
    subst this
    rw [FitsD, if_neg h', if_pos rfl]
  · have hne : l ≠ [] := fun e => h0 (by rw [e]; rfl)
    have hw : IntKind.wrap .i64 ((l.length : Int) - 1) = l.length - 1 := by rw [IntKind.wrap_i64]; omega
    have hd : Kd.dft (Kd.int .u8) = (0 : Int) := rfl
    have hb : 0 ≤ l.getD (l.length - 1) 0 ∧ l.getD (l.length - 1) 0 ≤ 255 := byte_get hx.1 (l.length - 1)
    rw [hw, hd, show ((l.length : Int) - 1).toNat = l.length - 1 by omega]
    refine ⟨fun y _ => 0 ≤ y.1 ∧ y.1 ≤ n ∧ y.2.1 = 2 ^ y.1.toNat, fun y _ => (n - y.1).toNat, ⟨by omega, by omega, rfl⟩, ?_⟩
    rintro ⟨i, p, _⟩ _ hwi ⟨h1, h2, h3⟩
    simp only at h1 h2 h3 hwi ⊢
    subst h3
    obtain ⟨j, rfl⟩ : ∃ j : Nat, i = j := ⟨i.toNat, by omega⟩
    rw [Int.toNat_natCast]
    have hp := pow7 j (by omega)
    refine ⟨fun hc => ?_, fun hc => ⟨by omega, by omega, ?_⟩⟩
    · rw [wrapk _ (by omega) (by omega), wrapk _ (by omega) (by omega)]
      refine ⟨⟨by omega, by omega, ?_⟩, by omega⟩
      rw [show ((j : Int) + 1).toNat = j + 1 by omega, Int.pow_succ, Int.mul_comm]
    · have hjn : (j : Int) = n := by omega
      rw [wrapk _ (by omega) (by omega), Int.tmod_eq_emod_of_nonneg hb.1, last_get l hne]
      rw [FitsD, if_neg h', if_neg hne, ← hjn, Int.toNat_natCast]
theorem h24 : c24.ok Try.prog GL 24 := con_ok (H := {}) (mkEnv_ok (gl := GL) (l := []) (q := []) (d := []) _ tyOk (by kernel_rfl) trivial trivial trivial) (by kernel_rfl) (by kernel_rfl) (Eq.mp e24 k24)

noncomputable def i25 : CallSem := cutSem <| vcFn (mkEnv ty [] [] [] [0, 1, 4, 6, 16]) {} Try.f25.ntmps Try.f25.results.toList (bodyOf Try.f25)
theorem i25_ok : CallOk Try.prog GL 25 i25 := cut_ok <| inl_ok {} (mkEnv_ok (gl := GL) (l := []) (q := []) (d := []) _ tyOk (by kernel_rfl) trivial trivial trivial) (by kernel_rfl) (by kernel_rfl)

def t23 : Prop :=
  ∀ (x : List (List Int) × Unit),
    Kd.wf (Kd.sl (Kd.sl (Kd.int IntKind.u8))) x.fst ∧ True →
      (List.length x.fst ≤ (100 : Nat) ∧ ∀ (l : List Int), l ∈ x.fst → List.length l ≤ (10000000 : Nat)) →
        ∃ (I : Int × Int × Unit → Unit → Prop),
          ∃ (μ : Int × Int × Unit → Unit → Nat),
            ((↑(List.length x.fst) : Int) = (↑(List.length x.fst) : Int) ∧
                x.fst = x.fst ∧ Value.slice none (0 : Nat) (0 : Nat) = Value.slice none (0 : Nat) (0 : Nat) ∧ x.fst = x.fst ∧ I ((0 : Int), (0 : Int), ()) ()) ∧
              ∀ (y : Int × Int × Unit) (z : Unit),
                Kd.wf (Kd.int IntKind.i64) y.fst ∧ Kd.wf (Kd.int IntKind.i64) y.snd.fst ∧ True →
                  True →
                    I y z →
                      (decide (y.fst < (↑(List.length x.fst) : Int)) = true →
                          ((0 : Int) ≤ y.fst ∧ y.fst < (↑(List.length x.fst) : Int)) ∧
                            (decide (IntKind.wrap IntKind.i64 (y.snd.fst + (↑(List.length (List.getD x.fst (Int.toNat y.fst) (Kd.dft (Kd.sl (Kd.int IntKind.u8))))) : Int)) < (0 : Int)) = true → False) ∧
                              (decide (IntKind.wrap IntKind.i64 (y.snd.fst + (↑(List.length (List.getD x.fst (Int.toNat y.fst) (Kd.dft (Kd.sl (Kd.int IntKind.u8))))) : Int)) < (0 : Int)) = false →
                                (↑(List.length x.fst) : Int) = (↑(List.length x.fst) : Int) ∧
                                  x.fst = x.fst ∧
                                    Value.slice none (0 : Nat) (0 : Nat) = Value.slice none (0 : Nat) (0 : Nat) ∧
                                      x.fst = x.fst ∧
                                        I
                                            (IntKind.wrap IntKind.i64 (y.fst + (1 : Int)),
                                              IntKind.wrap IntKind.i64 (y.snd.fst + (↑(List.length (List.getD x.fst (Int.toNat y.fst) (Kd.dft (Kd.sl (Kd.int IntKind.u8))))) : Int)), ())
                                            () ∧
                                          μ
                                              (IntKind.wrap IntKind.i64 (y.fst + (1 : Int)),
                                                IntKind.wrap IntKind.i64 (y.snd.fst + (↑(List.length (List.getD x.fst (Int.toNat y.fst) (Kd.dft (Kd.sl (Kd.int IntKind.u8))))) : Int)), ())
                                              () <
                                            μ y z)) ∧
                        (decide (y.fst < (↑(List.length x.fst) : Int)) = false →
                          (decide (y.snd.fst < (0 : Int)) = true → False) ∧
                            (decide (y.snd.fst < (0 : Int)) = false →
                              (decide ((0 : Int) < IntKind.wrap IntKind.i64 (y.snd.fst - IntKind.wrap IntKind.i64 ((0 : Int) - (0 : Int)))) = true →
                                  ((0 : Int) ≤ (0 : Int) ∧ (0 : Int) ≤ (↑(0 : Nat) : Int)) ∧
                                    (0 : Int) < IntKind.wrap IntKind.i64 (y.snd.fst - IntKind.wrap IntKind.i64 ((0 : Int) - (0 : Int))) ∧
                                      IntKind.wrap IntKind.i64 (y.snd.fst - IntKind.wrap IntKind.i64 ((0 : Int) - (0 : Int))) ≤ (1000000000 : Int) ∧
                                        ((0 : Int) ≤ (0 : Int) ∧
                                            (0 : Int) ≤
                                              (↑(List.length
                                                    (List.replicate (Int.toNat (IntKind.wrap IntKind.i64 (y.snd.fst - IntKind.wrap IntKind.i64 ((0 : Int) - (0 : Int))))) (Kd.dft (Kd.int IntKind.u8)))) :
                                                Int)) ∧
                                          (0 : Nat) = (0 : Nat) ∧
                                            ∃ (I : Int × Unit → List Int × Unit → Prop),
                                              ∃ (μ : Int × Unit → List Int × Unit → Nat),
                                                ((↑(List.length x.fst) : Int) = (↑(List.length x.fst) : Int) ∧
                                                    x.fst = x.fst ∧
                                                      Value.bool false = Value.bool false ∧
                                                        y.fst = y.fst ∧
                                                          (↑(List.length x.fst) : Int) = (↑(List.length x.fst) : Int) ∧
                                                            x.fst = x.fst ∧
                                                              y.snd.fst = y.snd.fst ∧
                                                                Value.slice none (0 : Nat) (0 : Nat) = Value.slice none (0 : Nat) (0 : Nat) ∧
                                                                  x.fst = x.fst ∧
                                                                    I ((0 : Int), ())
                                                                      (List.take ((0 : Nat) - (0 : Nat))
                                                                          (List.replicate (Int.toNat (IntKind.wrap IntKind.i64 (y.snd.fst - IntKind.wrap IntKind.i64 ((0 : Int) - (0 : Int)))))
                                                                            (Kd.dft (Kd.int IntKind.u8))),
                                                                        ())) ∧
                                                  ∀ (y_1 : Int × Unit) (z : List Int × Unit),
                                                    Kd.wf (Kd.int IntKind.i64) y_1.fst ∧ True →
                                                      Kd.wf (Kd.sl (Kd.int IntKind.u8)) z.fst ∧ True →
                                                        I y_1 z →
                                                          (decide (y_1.fst < (↑(List.length x.fst) : Int)) = true →
                                                              ((0 : Int) ≤ y_1.fst ∧ y_1.fst < (↑(List.length x.fst) : Int)) ∧
                                                                (0 : Nat) < (1 : Nat) ∧
                                                                  (List.length z.fst + List.length (List.getD x.fst (Int.toNat y_1.fst) (Kd.dft (Kd.sl (Kd.int IntKind.u8))))) * (1 : Nat) ≤
                                                                      (140737488355328 : Nat) ∧
                                                                    List.length z.fst + List.length (List.getD x.fst (Int.toNat y_1.fst) (Kd.dft (Kd.sl (Kd.int IntKind.u8)))) ≤
                                                                        (9223372036854775807 : Nat) ∧
                                                                      (↑(List.length x.fst) : Int) = (↑(List.length x.fst) : Int) ∧
                                                                        x.fst = x.fst ∧
                                                                          Value.bool false = Value.bool false ∧
                                                                            y.fst = y.fst ∧
                                                                              (↑(List.length x.fst) : Int) = (↑(List.length x.fst) : Int) ∧
                                                                                x.fst = x.fst ∧
                                                                                  y.snd.fst = y.snd.fst ∧
                                                                                    Value.slice none (0 : Nat) (0 : Nat) = Value.slice none (0 : Nat) (0 : Nat) ∧
                                                                                      x.fst = x.fst ∧
                                                                                        I (IntKind.wrap IntKind.i64 (y_1.fst + (1 : Int)), ())
                                                                                            (z.fst ++ List.getD x.fst (Int.toNat y_1.fst) (Kd.dft (Kd.sl (Kd.int IntKind.u8))), ()) ∧
                                                                                          μ (IntKind.wrap IntKind.i64 (y_1.fst + (1 : Int)), ())
                                                                                              (z.fst ++ List.getD x.fst (Int.toNat y_1.fst) (Kd.dft (Kd.sl (Kd.int IntKind.u8))), ()) <
                                                                                            μ y_1 z) ∧
                                                            (decide (y_1.fst < (↑(List.length x.fst) : Int)) = false → z.fst = List.flatten x.fst)) ∧
                                (decide ((0 : Int) < IntKind.wrap IntKind.i64 (y.snd.fst - IntKind.wrap IntKind.i64 ((0 : Int) - (0 : Int)))) = false →
                                  ∃ (I : Int × Unit → List Int × Unit → Prop),
                                    ∃ (μ : Int × Unit → List Int × Unit → Nat),
                                      ((↑(List.length x.fst) : Int) = (↑(List.length x.fst) : Int) ∧
                                          x.fst = x.fst ∧
                                            Value.bool false = Value.bool false ∧
                                              y.fst = y.fst ∧
                                                (↑(List.length x.fst) : Int) = (↑(List.length x.fst) : Int) ∧
                                                  x.fst = x.fst ∧
                                                    y.snd.fst = y.snd.fst ∧ Value.slice none (0 : Nat) (0 : Nat) = Value.slice none (0 : Nat) (0 : Nat) ∧ x.fst = x.fst ∧ I ((0 : Int), ()) ([], ())) ∧
                                        ∀ (y_1 : Int × Unit) (z : List Int × Unit),
                                          Kd.wf (Kd.int IntKind.i64) y_1.fst ∧ True →
                                            Kd.wf (Kd.sl (Kd.int IntKind.u8)) z.fst ∧ True →
                                              I y_1 z →
                                                (decide (y_1.fst < (↑(List.length x.fst) : Int)) = true →
                                                    ((0 : Int) ≤ y_1.fst ∧ y_1.fst < (↑(List.length x.fst) : Int)) ∧
                                                      (0 : Nat) < (1 : Nat) ∧
                                                        (List.length z.fst + List.length (List.getD x.fst (Int.toNat y_1.fst) (Kd.dft (Kd.sl (Kd.int IntKind.u8))))) * (1 : Nat) ≤
                                                            (140737488355328 : Nat) ∧
                                                          List.length z.fst + List.length (List.getD x.fst (Int.toNat y_1.fst) (Kd.dft (Kd.sl (Kd.int IntKind.u8)))) ≤ (9223372036854775807 : Nat) ∧
                                                            (↑(List.length x.fst) : Int) = (↑(List.length x.fst) : Int) ∧
                                                              x.fst = x.fst ∧
                                                                Value.bool false = Value.bool false ∧
                                                                  y.fst = y.fst ∧
                                                                    (↑(List.length x.fst) : Int) = (↑(List.length x.fst) : Int) ∧
                                                                      x.fst = x.fst ∧
                                                                        y.snd.fst = y.snd.fst ∧
                                                                          Value.slice none (0 : Nat) (0 : Nat) = Value.slice none (0 : Nat) (0 : Nat) ∧
                                                                            x.fst = x.fst ∧
                                                                              I (IntKind.wrap IntKind.i64 (y_1.fst + (1 : Int)), ())
                                                                                  (z.fst ++ List.getD x.fst (Int.toNat y_1.fst) (Kd.dft (Kd.sl (Kd.int IntKind.u8))), ()) ∧
                                                                                μ (IntKind.wrap IntKind.i64 (y_1.fst + (1 : Int)), ())
                                                                                    (z.fst ++ List.getD x.fst (Int.toNat y_1.fst) (Kd.dft (Kd.sl (Kd.int IntKind.u8))), ()) <
                                                                                  μ y_1 z) ∧
                                                  (decide (y_1.fst < (↑(List.length x.fst) : Int)) = false → z.fst = List.flatten x.fst))))
theorem e23 : t23 = Con.vc c23 GL (mkEnv ty [(25, i25)] [] [] [0, 2, 3, 5, 6, 8, 9, 10, 11, 12, 20, 25, 26, 27, 28]) {} Try.f23.ntmps Try.f23.results.toList (bodyOf Try.f23) := by kernel_rfl
theorem k23 : t23 := by
  unfold t23
  rintro ⟨xs, _⟩ hx ⟨hp1, hp2⟩
  have hp1 : xs.length ≤ 100 := hp1
  have hb := flat_bound xs hp1 hp2
  simp only [true_and, and_true, eq_self_iff_true, implies_true, reduceCtorEq, false_implies, true_implies, decide_eq_true_eq, decide_eq_false_iff_not, beq_self_eq_true, Bool.not_eq_true', ne_eq, Decidable.not_not, List.nil_append, List.length_singleton, List.length_cons, List.length_nil, Nat.zero_add, Nat.add_zero, Nat.mul_one, and_self, beq_iff_eq, Bool.not_true, Bool.not_false, Bool.not_eq_false', Bool.cond_false_right, Bool.and_eq_true, imp_self, Bool.not_eq_true, Bool.cond_true_left, Bool.or_eq_true]
  have dft : Kd.dft (Kd.sl (Kd.int IntKind.u8)) = ([] : List Int) := rfl
  simp only [dft]
  refine ⟨fun y z => 0 ≤ y.1 ∧ y.1 ≤ xs.length ∧ y.2.1 = ((xs.take y.1.toNat).flatten.length : Int), fun y z => xs.length - y.1.toNat, ⟨by simp, by simp, by simp⟩, ?_⟩
  rintro ⟨i, s, _⟩ z hy ⟨h0, h1, h2⟩
  simp only at h0 h1 h2 ⊢
  have hs := hb i.toNat
  refine ⟨fun hlt => ?_, fun hge => ⟨fun h => by omega, fun _ => ⟨fun hpos => ?_, fun _ => flat_loop xs hp1 hb [] rfl⟩⟩⟩
  · have e := take_flat xs i.toNat (by omega)
    have hl := hb (i.toNat + 1)
    rw [e, List.length_append] at hl
    have hw : IntKind.wrap .i64 (i + 1) = i + 1 := wrapk _ (by omega) (by omega)
    have hw2 : IntKind.wrap .i64 (s + ((xs.getD i.toNat []).length : Int)) = s + ((xs.getD i.toNat []).length : Int) := wrapk _ (by omega) (by omega)
    rw [hw, hw2]
    refine ⟨⟨h0, hlt⟩, fun h => by omega, fun _ => ⟨⟨by omega, by omega, ?_⟩, by omega⟩⟩
    rw [show (i + 1).toNat = i.toNat + 1 by omega, e, List.length_append]
    omega
  · have hw3 : IntKind.wrap .i64 (s - IntKind.wrap .i64 (0 - 0)) = s := by rw [show IntKind.wrap .i64 (0 - 0) = 0 by decide, wrapk _ (by omega) (by omega)]; omega
    rw [hw3] at hpos ⊢
    exact ⟨by decide, hpos, by omega, ⟨by omega, by omega⟩, flat_loop xs hp1 hb _ (by simp)⟩
theorem h23 : c23.ok Try.prog GL 23 := con_ok (H := {}) (mkEnv_ok (gl := GL) (l := [(25, i25)]) (q := []) (d := []) _ tyOk (by kernel_rfl) ⟨i25_ok, trivial⟩ trivial trivial) (by kernel_rfl) (by kernel_rfl) (Eq.mp e23 k23)

def t15 : Prop :=
  ∀ (x : List Int × Int × Unit),
    Kd.wf (Kd.sl (Kd.int IntKind.u8)) x.fst ∧ Kd.wf (Kd.int IntKind.i64) x.snd.fst ∧ True →
      List.length x.fst ≤ (1048576 : Nat) →
        True ∧
          (∀ (y : Bool × Unit),
              Kd.wf Kd.bool y.fst ∧ True →
                y.fst = FitsD x.fst x.snd.fst →
                  ((!y.fst) = true → ([], (2 : Int)) = BitsD x.fst x.snd.fst) ∧
                    ((!y.fst) = false →
                      (List.length [[IntKind.wrap IntKind.u8 x.snd.fst], x.fst] ≤ (100 : Nat) ∧ ∀ (l : List Int), l ∈ [[IntKind.wrap IntKind.u8 x.snd.fst], x.fst] → List.length l ≤ (10000000 : Nat)) ∧
                        (∀ (y : List Int × Unit),
                            Kd.wf (Kd.sl (Kd.int IntKind.u8)) y.fst ∧ True → y.fst = List.flatten [[IntKind.wrap IntKind.u8 x.snd.fst], x.fst] → (y.fst, (0 : Int)) = BitsD x.fst x.snd.fst) ∧
                          True)) ∧
            True
theorem e15 : t15 = Con.vc c15 GL (mkEnv ty [(22, conSem c22), (23, conSem c23)] [] [] [0, 1, 4, 5, 9]) {} Try.f15.ntmps Try.f15.results.toList (bodyOf Try.f15) := by kernel_rfl
theorem k15 : t15 := by
  unfold t15
  rintro ⟨l, n, _⟩ hx hp
  have hp : l.length ≤ 1048576 := hp
  simp only [true_and, and_true, eq_self_iff_true, implies_true, reduceCtorEq, false_implies, true_implies, decide_eq_true_eq, decide_eq_false_iff_not, beq_self_eq_true, Bool.not_eq_true', ne_eq, Decidable.not_not, List.nil_append, List.length_singleton, List.length_cons, List.length_nil, Nat.zero_add, Nat.add_zero, Nat.mul_one, and_self, beq_iff_eq, Bool.not_true, Bool.not_false, Bool.not_eq_false', Bool.cond_false_right, Bool.and_eq_true, imp_self, Bool.not_eq_true, Bool.cond_true_left, Bool.or_eq_true]
  rintro ⟨b, _⟩ _ eb
  simp only at eb ⊢
  refine ⟨fun h => ?_, fun h => ⟨⟨by decide, fun l' hl' => ?_⟩, fun y _ ey => ?_⟩⟩
  · simp [BitsD, ← eb, h]
  · simp at hl'
    rcases hl' with rfl | rfl
    · simp
    · omega
  · have hn : 0 ≤ n ∧ n ≤ 7 := by
      rw [h] at eb
      unfold FitsD at eb
      split at eb
      · cases eb
      · omega
    have hw : IntKind.wrap .u8 n = n := by simp [IntKind.wrap, IntKind.signed, IntKind.bits]; omega
    rw [ey, hw]
    simp [BitsD, ← eb, h]
theorem h15 : c15.ok Try.prog GL 15 := con_ok (H := {}) (mkEnv_ok (gl := GL) (l := [(22, conSem c22), (23, conSem c23)]) (q := []) (d := []) _ tyOk (by kernel_rfl) ⟨h22.call, h23.call, trivial⟩ trivial trivial) (by kernel_rfl) (by kernel_rfl) (Eq.mp e15 k15)

def t16 : Prop :=
  ∀ (x : List Int × Int × Unit),
    Kd.wf (Kd.sl (Kd.int IntKind.u8)) x.fst ∧ Kd.wf (Kd.int IntKind.i64) x.snd.fst ∧ True →
      List.length x.fst ≤ (1048576 : Nat) →
        True ∧
          (∀ (y : Bool × Unit),
              Kd.wf Kd.bool y.fst ∧ True →
                y.fst = FitsD x.fst x.snd.fst →
                  ((!y.fst) = true → ([], (2 : Int)) = BitsD x.fst x.snd.fst) ∧
                    ((!y.fst) = false →
                      (0 : Nat) < (1 : Nat) ∧
                        (List.length [IntKind.wrap IntKind.u8 x.snd.fst] + List.length x.fst) * (1 : Nat) ≤ (140737488355328 : Nat) ∧
                          List.length [IntKind.wrap IntKind.u8 x.snd.fst] + List.length x.fst ≤ (9223372036854775807 : Nat) ∧
                            ([IntKind.wrap IntKind.u8 x.snd.fst] ++ x.fst, (0 : Int)) = BitsD x.fst x.snd.fst)) ∧
            True
theorem e16 : t16 = Con.vc c16 GL (mkEnv ty [(24, conSem c24)] [] [] [0, 1, 4, 5, 9]) {} Try.f16.ntmps Try.f16.results.toList (bodyOf Try.f16) := by kernel_rfl
theorem k16 : t16 := by
  unfold t16
  rintro ⟨l, n, _⟩ hx hp
  have hp : l.length ≤ 1048576 := hp
  simp only [true_and, and_true, eq_self_iff_true, implies_true, reduceCtorEq, false_implies, true_implies, decide_eq_true_eq, decide_eq_false_iff_not, beq_self_eq_true, Bool.not_eq_true', ne_eq, Decidable.not_not, List.nil_append, List.length_singleton, List.length_cons, List.length_nil, Nat.zero_add, Nat.add_zero, Nat.mul_one, and_self, beq_iff_eq, Bool.not_true, Bool.not_false, Bool.not_eq_false', Bool.cond_false_right, Bool.and_eq_true, imp_self, Bool.not_eq_true, Bool.cond_true_left, Bool.or_eq_true]
  rintro ⟨b, _⟩ _ eb
  simp only at eb ⊢
  refine ⟨fun h => ?_, fun h => ⟨by decide, by omega, by omega, ?_⟩⟩
  · simp [BitsD, ← eb, h]
  · have hn : 0 ≤ n ∧ n ≤ 7 := by
      rw [h] at eb
      unfold FitsD at eb
      split at eb
      · cases eb
      · omega
    have hw : IntKind.wrap .u8 n = n := by simp [IntKind.wrap, IntKind.signed, IntKind.bits]; omega
    rw [hw]
    simp [BitsD, ← eb, h]
theorem h16 : c16.ok Try.prog GL 16 := con_ok (H := {}) (mkEnv_ok (gl := GL) (l := [(24, conSem c24)]) (q := []) (d := []) _ tyOk (by kernel_rfl) ⟨h24.call, trivial⟩ trivial trivial) (by kernel_rfl) (by kernel_rfl) (Eq.mp e16 k16)

noncomputable def i14 : CallSem := vcFn (mkEnv ty [] [] [] [0, 2]) {} Try.f14.ntmps Try.f14.results.toList (bodyOf Try.f14)
theorem i14_ok : CallOk Try.prog GL 14 i14 := inl_ok {} (mkEnv_ok (gl := GL) (l := []) (q := []) (d := []) _ tyOk (by kernel_rfl) trivial trivial trivial) (by kernel_rfl) (by kernel_rfl)

noncomputable def i17 : CallSem := vcFn (mkEnv ty [] [] [] [0, 1, 4]) {} Try.f17.ntmps Try.f17.results.toList (bodyOf Try.f17)
theorem i17_ok : CallOk Try.prog GL 17 i17 := inl_ok {} (mkEnv_ok (gl := GL) (l := []) (q := []) (d := []) _ tyOk (by kernel_rfl) trivial trivial trivial) (by kernel_rfl) (by kernel_rfl)

def t5 : Prop :=
  ∀ (x : List Int × Int × Unit),
    Kd.wf (Kd.sl (Kd.int IntKind.u8)) x.fst ∧ Kd.wf (Kd.int IntKind.i64) x.snd.fst ∧ True →
      ABulk [AK.dat (Kd.sl (Kd.int IntKind.u8)), AK.dat (Kd.int IntKind.i64)] x ≤ (1048576 : Nat) →
        (0 : Nat) < (1 : Nat) ∧
          ((0 : Nat) + List.length x.fst) * (1 : Nat) ≤ (140737488355328 : Nat) ∧
            (0 : Nat) + List.length x.fst ≤ (9223372036854775807 : Nat) ∧
              (0 : Nat) < (1 : Nat) ∧
                (List.length ([] ++ x.fst) + (1 : Nat)) * (1 : Nat) ≤ (140737488355328 : Nat) ∧
                  List.length ([] ++ x.fst) + (1 : Nat) ≤ (9223372036854775807 : Nat) ∧
                    ((0 : Int) ≤ (↑(List.length x.fst) : Int) ∧ (↑(List.length x.fst) : Int) ≤ (↑(List.length ([] ++ x.fst ++ [(90 : Int)])) : Int)) ∧
                      List.length (List.take (Int.toNat (↑(List.length x.fst) : Int) - (0 : Nat)) (List.drop (0 : Nat) ([] ++ x.fst ++ [(90 : Int)]))) ≤ (1048576 : Nat) ∧
                        (∀ (y : List Int × Int × Unit),
                            Kd.wf (Kd.sl (Kd.int IntKind.u8)) y.fst ∧ Kd.wf (Kd.int IntKind.i64) y.snd.fst ∧ True →
                              (y.fst, y.snd.fst) = BitsD (List.take (Int.toNat (↑(List.length x.fst) : Int) - (0 : Nat)) (List.drop (0 : Nat) ([] ++ x.fst ++ [(90 : Int)]))) x.snd.fst →
                                List.length (List.take (Int.toNat (↑(List.length x.fst) : Int) - (0 : Nat)) (List.drop (0 : Nat) ([] ++ x.fst ++ [(90 : Int)]))) ≤ (1048576 : Nat) ∧
                                  (∀ (y_1 : List Int × Int × Unit),
                                      Kd.wf (Kd.sl (Kd.int IntKind.u8)) y_1.fst ∧ Kd.wf (Kd.int IntKind.i64) y_1.snd.fst ∧ True →
                                        (y_1.fst, y_1.snd.fst) = BitsD (List.take (Int.toNat (↑(List.length x.fst) : Int) - (0 : Nat)) (List.drop (0 : Nat) ([] ++ x.fst ++ [(90 : Int)]))) x.snd.fst →
                                          List.length x.fst ≤ (1048576 : Nat) ∧
                                            (∀ (y_2 : List Int × Int × Unit),
                                                Kd.wf (Kd.sl (Kd.int IntKind.u8)) y_2.fst ∧ Kd.wf (Kd.int IntKind.i64) y_2.snd.fst ∧ True →
                                                  (y_2.fst, y_2.snd.fst) = BitsD x.fst x.snd.fst →
                                                    List.length y.fst ≤ (1000000000 : Nat) ∧
                                                      (∀ (y_3 : Bool × Unit),
                                                          Kd.wf Kd.bool y_3.fst ∧ True →
                                                            (y.fst = y_2.fst → y_1.fst = y_2.fst → y_3.fst = true) →
                                                              (y_3.fst = true → True) ∧
                                                                (y_3.fst = true → True) ∧
                                                                  (y_3.fst = true → (y_3.fst == true) = true ∧ (y_3.fst == true) = true ∧ True) ∧
                                                                    (y_3.fst = true → (y_3.fst == true) = true) ∧
                                                                      ((bif y_3.fst then decide (y.snd.fst = y_2.snd.fst) else false) = true → True) ∧
                                                                        ((bif y_3.fst then decide (y.snd.fst = y_2.snd.fst) else false) = true → True) ∧
                                                                          ((bif y_3.fst then decide (y.snd.fst = y_2.snd.fst) else false) = true →
                                                                              ((bif y_3.fst then decide (y.snd.fst = y_2.snd.fst) else false) == true) = true ∧
                                                                                ((bif y_3.fst then decide (y.snd.fst = y_2.snd.fst) else false) == true) = true ∧
                                                                                  ((0 : Int) ≤ IntKind.wrap IntKind.i64 ((↑(List.length x.fst) : Int) + (1 : Int)) ∧
                                                                                      IntKind.wrap IntKind.i64 ((↑(List.length x.fst) : Int) + (1 : Int)) ≤
                                                                                        (↑(List.length ([] ++ x.fst ++ [(90 : Int)]) - (0 : Nat)) : Int)) ∧
                                                                                    List.length x.fst + (1 : Nat) ≤ (9223372036854775807 : Nat) ∧
                                                                                      (decide
                                                                                              (List.take (Int.toNat (IntKind.wrap IntKind.i64 ((↑(List.length x.fst) : Int) + (1 : Int))) - (0 : Nat))
                                                                                                  (List.drop (0 : Nat) ([] ++ x.fst ++ [(90 : Int)])) =
                                                                                                x.fst ++ bs { data := #[(90 : UInt8)] }) =
                                                                                            true →
                                                                                          True ∧
                                                                                            (∀ (y : List Int × Unit),
                                                                                                Kd.wf (Kd.sl (Kd.int IntKind.u8)) y.fst ∧ True →
                                                                                                  y.fst = BoolD true →
                                                                                                    (decide (y.fst = bs { data := #[(255 : UInt8)] }) = true →
                                                                                                        True ∧ (∀ (y : Bool × Unit), Kd.wf Kd.bool y.fst ∧ True → y.fst = true → y.fst = true) ∧ True) ∧
                                                                                                      (decide (y.fst = bs { data := #[(255 : UInt8)] }) = !true → false = true)) ∧
                                                                                              True) ∧
                                                                                        (decide
                                                                                              (List.take (Int.toNat (IntKind.wrap IntKind.i64 ((↑(List.length x.fst) : Int) + (1 : Int))) - (0 : Nat))
                                                                                                  (List.drop (0 : Nat) ([] ++ x.fst ++ [(90 : Int)])) =
                                                                                                x.fst ++ bs { data := #[(90 : UInt8)] }) =
                                                                                            !true →
                                                                                          false = true)) ∧
                                                                            ((bif y_3.fst then decide (y.snd.fst = y_2.snd.fst) else false) = !true → false = true)) ∧
                                                        True) ∧
                                              True) ∧
                                    True) ∧
                          True
theorem e5 : t5 = Con.vc c5 GL (mkEnv ty [(14, i14), (15, conSem c15), (16, conSem c16), (6, conSem c6), (17, i17), (12, conSem c12), (9, conSem c9)] [] [] [0, 1, 4, 5, 6, 7, 8, 10, 11]) {} Try.f5.ntmps Try.f5.results.toList (bodyOf Try.f5) := by kernel_rfl
theorem k5 : t5 := by
  unfold t5
  rintro ⟨l, n, _⟩ hx hp
  have hl : l.length ≤ 1048576 := by
    simp [ABulk, AK.bulk, Kd.bulk, sum_ones] at hp
    omega
  simp only [true_and, and_true, eq_self_iff_true, implies_true, reduceCtorEq, false_implies, true_implies, decide_eq_true_eq, decide_eq_false_iff_not, beq_self_eq_true, Bool.not_eq_true', ne_eq, Decidable.not_not, List.nil_append, List.length_singleton, List.length_cons, List.length_nil, Nat.zero_add, Nat.add_zero, Nat.mul_one, and_self, beq_iff_eq, Bool.not_true, Bool.not_false, Bool.not_eq_false', Bool.cond_false_right, Bool.and_eq_true, imp_self, Bool.not_eq_true, Bool.cond_true_left, Bool.or_eq_true]
  have et : List.take ((l.length : Int).toNat - 0) (List.drop 0 (l ++ [(90 : Int)])) = l := by simp
  rw [et]
  refine ⟨by decide, by omega, by omega, by decide, by omega, by omega, ⟨by omega, by simp; omega⟩, hl, ?_⟩
  rintro ⟨a, b, _⟩ hy ey
  refine ⟨hl, ?_⟩
  rintro ⟨a2, b2, _⟩ hy2 ey2
  refine ⟨hl, ?_⟩
  rintro ⟨a3, b3, _⟩ hy3 ey3
  simp only at ey ey2 ey3 hy ⊢
  have e1 : (a, b) = (a3, b3) := ey.trans ey3.symm
  have e2 : (a2, b2) = (a3, b3) := ey2.trans ey3.symm
  cases e1
  cases e2
  have hal : a.length ≤ 1000000000 := by
    have : (a, b).1 = (BitsD l n).1 := by rw [ey]
    have : a = (BitsD l n).1 := this
    rw [this, BitsD]
    split <;> simp <;> omega
  refine ⟨hal, ?_⟩
  rintro ⟨c, _⟩ hc ec
  have ec : c = true := ec rfl rfl
  simp only [ec]
  have hw : IntKind.wrap .i64 ((l.length : Int) + 1) = l.length + 1 := wrapk _ (by omega) (by omega)
  rw [hw]
  have e90 : bs { data := #[90] } = [(90 : Int)] := by decide
  have e255 : bs { data := #[255] } = [(255 : Int)] := by decide
  have et2 : List.take (((l.length : Int) + 1).toNat - 0) (List.drop 0 (l ++ [(90 : Int)])) = l ++ [(90 : Int)] := by
    rw [show ((l.length : Int) + 1).toNat - 0 = l.length + 1 by omega, List.drop_zero, List.take_of_length_le (by simp)]
  rw [et2, e90, e255]
  refine ⟨fun _ => ⟨⟨trivial, trivial⟩, ⟨trivial, trivial⟩, ⟨by omega, by simp⟩, by omega, ⟨fun _ y _ ey hne => ?_, fun h => h rfl⟩⟩, fun h => by simp at h⟩
  rw [ey] at hne
  exact hne rfl
theorem h5 : c5.ok Try.prog GL 5 := con_ok (H := {}) (mkEnv_ok (gl := GL) (l := [(14, i14), (15, conSem c15), (16, conSem c16), (6, conSem c6), (17, i17), (12, conSem c12), (9, conSem c9)]) (q := []) (d := []) _ tyOk (by kernel_rfl) ⟨i14_ok, h15.call, h16.call, h6.call, i17_ok, h12.call, h9.call, trivial⟩ trivial trivial) (by kernel_rfl) (by kernel_rfl) (Eq.mp e5 k5)

end Go.Proofs.Ytgikinbkhhfgiaa
