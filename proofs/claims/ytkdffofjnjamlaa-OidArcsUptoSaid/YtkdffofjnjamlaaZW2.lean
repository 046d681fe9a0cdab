/- Walks. -/
import Derived.Test.YtkdffofjnjamlaaZW
set_option linter.unusedVariables false
set_option linter.unusedSimpArgs false
namespace Go.Proofs.Ytkdffofjnjamlaa
open Go Go.Vc Go.Proofs
set_option linter.unusedVariables false
set_option linter.unusedSimpArgs false
theorem arc_len (l : List Int) : ∀ (n : Nat) (i : Int), (arcR l n i).length ≤ n
  | 0, _ => Nat.le_refl _
  | n + 1, i => by
    rw [arcR]
    split
    · split
      · simp
      · have := arc_len l n (NextD l i).2.1
        simp
        omega
    · simp
theorem arcs_len (l : List Int) : (ArcsD l).length ≤ l.length := arc_len l l.length 0
theorem arc_end (l : List Int) (n : Nat) (i : Int) (h : ¬ i < l.length) : arcR l n i = [] := by
  cases n with
  | zero => rfl
  | succ n => rw [arcR, if_neg h]
theorem arc_bad (l : List Int) (n : Nat) (i : Int) (h : (NextD l i).2.2 ≠ 0) : arcR l n i = [] := by
  cases n with
  | zero => rfl
  | succ n =>
    rw [arcR]
    split
    · first | rfl | rw [if_pos h]
    · rfl
theorem arc_step (l : List Int) (m : Nat) (i : Int) (hi : i < l.length) (h : (NextD l i).2.2 = 0) : arcR l (m + 1) i = (i, (NextD l i).1) :: arcR l m (NextD l i).2.1 := by
  rw [arcR, if_pos hi, if_neg (fun hc => hc h)]
theorem step_true {l : List Int} {i x j : Int} (h : (x, j, true) = StepD l i) : (NextD l i).2.2 = 0 ∧ x = (NextD l i).1 ∧ j = (NextD l i).2.1 := by
  unfold StepD at h
  split at h
  · rename_i h0
    exact ⟨h0, congrArg Prod.fst h, congrArg (fun t => t.2.1) h⟩
  · have := congrArg (fun t => t.2.2) h
    cases this
theorem step_false {l : List Int} {i x j : Int} (h : (x, j, false) = StepD l i) : (NextD l i).2.2 ≠ 0 := by
  unfold StepD at h
  split at h
  · have := congrArg (fun t => t.2.2) h
    cases this
  · rename_i h0
    exact h0
def t24 : Prop :=
  ∀ (x : List Int × Unit),
    Kd.wf (Kd.sl (Kd.int IntKind.u8)) x.fst ∧ True →
      List.length x.fst ≤ (1000000000 : Nat) →
        ∀ (b : Bool),
          (b = true → x.fst = []) →
            (b = true → [] = x.fst) ∧
              (b = false →
                (0 : Nat) < (1 : Nat) ∧ ((0 : Nat) + List.length x.fst) * (1 : Nat) ≤ (140737488355328 : Nat) ∧ (0 : Nat) + List.length x.fst ≤ (9223372036854775807 : Nat) ∧ [] ++ x.fst = x.fst)
theorem e24 : t24 = Con.vc c24 GL (mkEnv ty [] [] [] [0, 2, 4]) {} Try.f24.ntmps Try.f24.results.toList (bodyOf Try.f24) := by kernel_rfl
theorem k24 : t24 := by
  unfold t24
  rintro ⟨l, _⟩ hx hp
  have hp : l.length ≤ 1000000000 := hp
  try dsimp +instances only [dft_int, dft_sl, dft_str]
  simp only [true_and, and_true, eq_self_iff_true, implies_true, reduceCtorEq, false_implies, true_implies, decide_eq_true_eq, decide_eq_false_iff_not, beq_self_eq_true, Bool.not_eq_true', ne_eq, Decidable.not_not, List.nil_append, List.length_singleton, List.length_cons, List.length_nil, Nat.zero_add, Nat.add_zero, Nat.mul_one, and_self, beq_iff_eq, Bool.not_true, Bool.not_false, Bool.not_eq_false', Bool.cond_false_right, Bool.and_eq_true, imp_self, Bool.not_eq_true, Bool.cond_true_left, Bool.or_eq_true]
  intro b hb
  exact ⟨fun h => (hb h).symm, fun _ => ⟨by decide, by omega, by omega⟩⟩
theorem h24 : c24.ok Try.prog GL 24 := con_ok (H := {}) (mkEnv_ok (gl := GL) (l := []) (q := []) (d := []) _ tyOk (by kernel_rfl) trivial trivial trivial) (by kernel_rfl) (by kernel_rfl) (Eq.mp e24 k24)

noncomputable def i29 : DefSem := vcDef (mkEnv ty [] [] [] [0, 1, 2, 3, 5, 8, 15]) {} Try.f29.ntmps Try.f29.results.toList (bodyOf Try.f29)
theorem i29_ok : DefOk Try.prog GL 29 i29 := def_ok {} (mkEnv_ok (gl := GL) (l := []) (q := []) (d := []) _ tyOk (by kernel_rfl) trivial trivial trivial) (by kernel_rfl) (by kernel_rfl)

def t26 : Prop :=
  ∀ (x : List Int × Int × Unit),
    Kd.wf (Kd.sl (Kd.int IntKind.u8)) x.fst ∧ Kd.wf (Kd.int IntKind.i64) x.snd.fst ∧ True →
      (0 : Int) ≤ x.snd.fst →
        (1 : Nat) ≤ (65536 : Nat) ∧
          (1 : Nat) ≤ (65536 : Nat) ∧
            (1 : Nat) ≤ (65536 : Nat) ∧
              (0 : Int) ≤ x.snd.fst ∧
                (∀ (y : Int × Int × Unit),
                    Kd.wf (Kd.int IntKind.i64) y.fst ∧ Kd.wf (Kd.int IntKind.i64) y.snd.fst ∧ True →
                      NextD x.fst x.snd.fst = (y.fst, y.snd.fst, (0 : Int)) →
                        (((((y.fst, y.snd.fst, true) = StepD x.fst x.snd.fst ∧ True) ∧ True) ∧ True) ∧ ((((y.fst, y.snd.fst, true) = StepD x.fst x.snd.fst ∧ True) ∧ True) ∧ True) ∧ True) ∧
                          (((((y.fst, y.snd.fst, true) = StepD x.fst x.snd.fst ∧ True) ∧ True) ∧ True) ∧ True) ∧ True) ∧
                  ∀ (y : Int × Unit),
                    Kd.wf (Kd.pair (Kd.int IntKind.i64) Kd.unit) y →
                      (NextD x.fst x.snd.fst).snd.snd = y.fst ∧ y.fst ≠ (0 : Int) → (1 : Nat) ≤ (65536 : Nat) ∧ ((0 : Int), (0 : Int), false) = StepD x.fst x.snd.fst
theorem e26 : t26 = Con.vc c26 GL (mkEnv ty [(20, conSem c20)] [] [(29, i29)] [0, 1, 4, 5, 6]) {} Try.f26.ntmps Try.f26.results.toList (bodyOf Try.f26) := by kernel_rfl
theorem k26 : t26 := by
  unfold t26
  rintro ⟨l, i, _⟩ hx hp
  have hp : 0 ≤ i := hp
  try dsimp +instances only [dft_int, dft_sl, dft_str]
  simp only [true_and, and_true, eq_self_iff_true, implies_true, reduceCtorEq, false_implies, true_implies, decide_eq_true_eq, decide_eq_false_iff_not, beq_self_eq_true, Bool.not_eq_true', ne_eq, Decidable.not_not, List.nil_append, List.length_singleton, List.length_cons, List.length_nil, Nat.zero_add, Nat.add_zero, Nat.mul_one, and_self, beq_iff_eq, Bool.not_true, Bool.not_false, Bool.not_eq_false', Bool.cond_false_right, Bool.and_eq_true, imp_self, Bool.not_eq_true, Bool.cond_true_left, Bool.or_eq_true]
  refine ⟨by decide, by decide, by decide, hp, fun y _ e => ?_, fun y _ e => ⟨by decide, ?_⟩⟩
  · rw [StepD, e, if_pos rfl]
  · rw [StepD, if_neg (by rw [e.1]; exact e.2)]
theorem h26 : c26.ok Try.prog GL 26 := con_ok (H := {}) (mkEnv_ok (gl := GL) (l := [(20, conSem c20)]) (q := []) (d := [(29, i29)]) _ tyOk (by kernel_rfl) ⟨h20.call, trivial⟩ trivial ⟨i29_ok, trivial⟩) (by kernel_rfl) (by kernel_rfl) (Eq.mp e26 k26)

noncomputable def i25 : CallSem → CallSem := vcSeq (mkEnv ty [(26, conSem c26)] [] [] [0, 1, 3, 4, 5, 6, 10, 26]) {} Try.f25.ntmps Try.f25.results.toList (bodyOf Try.f25)
theorem i25_ok : SeqOk Try.prog GL 25 i25 := seq_ok {} (mkEnv_ok (gl := GL) (l := [(26, conSem c26)]) (q := []) (d := []) _ tyOk (by kernel_rfl) ⟨h26.call, trivial⟩ trivial trivial) (by kernel_rfl) (by kernel_rfl)

noncomputable def i11 : CallSem := vcFn (mkEnv ty [(24, conSem c24)] [] [] [0, 2, 3]) {} Try.f11.ntmps Try.f11.results.toList (bodyOf Try.f11)
theorem i11_ok : CallOk Try.prog GL 11 i11 := inl_ok {} (mkEnv_ok (gl := GL) (l := [(24, conSem c24)]) (q := []) (d := []) _ tyOk (by kernel_rfl) ⟨h24.call, trivial⟩ trivial trivial) (by kernel_rfl) (by kernel_rfl)

def t10 : Prop :=
  ∀ (x : List Int × Unit),
    Kd.wf (Kd.sl (Kd.int IntKind.u8)) x.fst ∧ True →
      List.length x.fst ≤ (1048576 : Nat) →
        ∃ (I : Int × Unit → List Int × List Int × List Int × List Int × Unit → Prop),
          ∃ (μ : Int × Unit → List Int × List Int × List Int × List Int × Unit → Nat),
            (x.fst = x.fst ∧ I ((0 : Int), ()) ([], [], [], [], ())) ∧
              ∀ (y : Int × Unit) (z : List Int × List Int × List Int × List Int × Unit),
                Kd.wf (Kd.int IntKind.i64) y.fst ∧ True →
                  Kd.wf (Kd.sl (Kd.int IntKind.i64)) z.fst ∧
                      Kd.wf (Kd.sl (Kd.int IntKind.i64)) z.snd.fst ∧ Kd.wf (Kd.sl (Kd.int IntKind.i64)) z.snd.snd.fst ∧ Kd.wf (Kd.sl (Kd.int IntKind.i64)) z.snd.snd.snd.fst ∧ True →
                    I y z →
                      (decide (y.fst < (↑(List.length x.fst) : Int)) = true →
                          (0 : Int) ≤ y.fst ∧
                            (∀ (y_1 : Int × Int × Int × Unit),
                                Kd.wf (Kd.int IntKind.i64) y_1.fst ∧ Kd.wf (Kd.int IntKind.i64) y_1.snd.fst ∧ Kd.wf (Kd.int IntKind.i64) y_1.snd.snd.fst ∧ True →
                                  NextD x.fst y.fst = (y_1.fst, y_1.snd.fst, y_1.snd.snd.fst) →
                                    (decide (y_1.snd.snd.fst ≠ (0 : Int)) = true →
                                        (z.snd.fst, z.fst) = (List.map (fun (x : Int × Int) => x.fst) (ArcsD x.fst), List.map (fun (x : Int × Int) => x.snd) (ArcsD x.fst))) ∧
                                      (decide (y_1.snd.snd.fst ≠ (0 : Int)) = false →
                                        (0 : Nat) < (1 : Nat) ∧
                                          (List.length z.snd.fst + List.length [y.fst]) * (8 : Nat) ≤ (140737488355328 : Nat) ∧
                                            List.length z.snd.fst + List.length [y.fst] ≤ (9223372036854775807 : Nat) ∧
                                              (0 : Nat) < (1 : Nat) ∧
                                                (List.length z.fst + List.length [y_1.fst]) * (8 : Nat) ≤ (140737488355328 : Nat) ∧
                                                  List.length z.fst + List.length [y_1.fst] ≤ (9223372036854775807 : Nat) ∧
                                                    x.fst = x.fst ∧
                                                      I (y_1.snd.fst, ()) (z.fst ++ [y_1.fst], z.snd.fst ++ [y.fst], z.snd.snd.fst, z.snd.snd.snd.fst, ()) ∧
                                                        μ (y_1.snd.fst, ()) (z.fst ++ [y_1.fst], z.snd.fst ++ [y.fst], z.snd.snd.fst, z.snd.snd.snd.fst, ()) < μ y z)) ∧
                              True) ∧
                        (decide (y.fst < (↑(List.length x.fst) : Int)) = false →
                          (z.snd.fst, z.fst) = (List.map (fun (x : Int × Int) => x.fst) (ArcsD x.fst), List.map (fun (x : Int × Int) => x.snd) (ArcsD x.fst)))
theorem e10 : t10 = Con.vc c10 GL (mkEnv ty [(22, conSem c22)] [] [] [0, 2, 3, 4, 5, 6, 7, 8, 9, 13, 22]) {} Try.f10.ntmps Try.f10.results.toList (bodyOf Try.f10) := by kernel_rfl
theorem k10 : t10 := by
  unfold t10
  rintro ⟨l, _⟩ hx hp
  have hp : l.length ≤ 1048576 := hp
  have hwf : Kd.wf BY l := hx.1
  have hA := arcs_len l
  try dsimp +instances only [dft_int, dft_sl, dft_str]
  simp only [true_and, and_true, eq_self_iff_true, implies_true, reduceCtorEq, false_implies, true_implies, decide_eq_true_eq, decide_eq_false_iff_not, beq_self_eq_true, Bool.not_eq_true', ne_eq, Decidable.not_not, List.nil_append, List.length_singleton, List.length_cons, List.length_nil, Nat.zero_add, Nat.add_zero, Nat.mul_one, and_self, beq_iff_eq, Bool.not_true, Bool.not_false, Bool.not_eq_false', Bool.cond_false_right, Bool.and_eq_true, imp_self, Bool.not_eq_true, Bool.cond_true_left, Bool.or_eq_true]
  refine ⟨fun y z => 0 ≤ y.1 ∧ ∃ (n : Nat) (pre : List (Int × Int)), (l.length : Int) - y.1 ≤ n ∧ ArcsD l = pre ++ arcR l n y.1 ∧ z.2.1 = pre.map (fun x => x.1) ∧ z.1 = pre.map (fun x => x.2), fun y _ => ((l.length : Int) - y.1).toNat, ⟨by omega, l.length, [], by omega, rfl, rfl, rfl⟩, ?_⟩
  rintro ⟨i, _⟩ ⟨vs, ps, q1, q2, _⟩ _ _ ⟨h0, n, pre, hn, ha, hps, hvs⟩
  simp only at h0 hn ha hps hvs ⊢
  have hpl : pre.length ≤ 1048576 := by
    have := congrArg List.length ha
    rw [List.length_append] at this
    omega
  refine ⟨fun hlt => ⟨h0, ?_⟩, fun hge => ?_⟩
  · rintro ⟨x, j, c, _⟩ _ e
    simp only at e ⊢
    refine ⟨fun hc => ?_, fun hc => ?_⟩
    · rw [arc_bad l n i (by rw [e]; exact hc), List.append_nil] at ha
      rw [hps, hvs, ha]
    · subst hc
      obtain ⟨m, rfl⟩ : ∃ m, n = m + 1 := ⟨n - 1, by omega⟩
      have hok := next_ok hwf i h0 (by rw [e])
      rw [arc_step l m i hlt (by rw [e]), e] at ha
      rw [e] at hok
      simp only at hok ha
      have hpsl : ps.length ≤ 1048576 := by rw [hps, List.length_map]; exact hpl
      have hvsl : vs.length ≤ 1048576 := by rw [hvs, List.length_map]; exact hpl
      refine ⟨by decide, by omega, by omega, by decide, by omega, by omega, ⟨by omega, m, pre ++ [(i, x)], by omega, by rw [ha]; simp, by rw [hps]; simp, by rw [hvs]; simp⟩, by omega⟩
  · rw [arc_end l n i hge, List.append_nil] at ha
    rw [hps, hvs, ha]
theorem h10 : c10.ok Try.prog GL 10 := con_ok (H := {}) (mkEnv_ok (gl := GL) (l := [(22, conSem c22)]) (q := []) (d := []) _ tyOk (by kernel_rfl) ⟨h22.call, trivial⟩ trivial trivial) (by kernel_rfl) (by kernel_rfl) (Eq.mp e10 k10)

def t12 : Prop :=
  ∀ (x : List Int × Unit),
    Kd.wf (Kd.sl (Kd.int IntKind.i64)) x.fst ∧ True →
      x.fst = [(1 : Int), (2 : Int)] →
        (decide ((↑(List.length x.fst) : Int) < (2 : Int)) = false → True) ∧
          (decide ((↑(List.length x.fst) : Int) < (2 : Int)) = false → (decide ((↑(List.length x.fst) : Int) < (2 : Int)) == false) = true ∧ True) ∧
            (decide ((↑(List.length x.fst) : Int) < (2 : Int)) = false → (decide ((↑(List.length x.fst) : Int) < (2 : Int)) == false) = true ∧ True) ∧
              (decide ((↑(List.length x.fst) : Int) < (2 : Int)) = false → (decide ((↑(List.length x.fst) : Int) < (2 : Int)) == false) = true) ∧
                ((bif decide ((↑(List.length x.fst) : Int) < (2 : Int)) then true else decide ((20 : Int) < (↑(List.length x.fst) : Int))) = true → false = true) ∧
                  ((bif decide ((↑(List.length x.fst) : Int) < (2 : Int)) then true else decide ((20 : Int) < (↑(List.length x.fst) : Int))) = false →
                    ∃ (I : Int × Bool × Unit → Unit → Prop),
                      ∃ (μ : Int × Bool × Unit → Unit → Nat),
                        ((↑(List.length x.fst) : Int) = (↑(List.length x.fst) : Int) ∧ x.fst = x.fst ∧ Value.bool false = Value.bool false ∧ x.fst = x.fst ∧ I ((0 : Int), false, ()) ()) ∧
                          ∀ (y : Int × Bool × Unit) (z : Unit),
                            Kd.wf (Kd.int IntKind.i64) y.fst ∧ Kd.wf Kd.bool y.snd.fst ∧ True →
                              True →
                                I y z →
                                  (decide (y.fst < (↑(List.length x.fst) : Int)) = true →
                                      ((0 : Int) ≤ y.fst ∧ y.fst < (↑(List.length x.fst) : Int)) ∧
                                        (decide (List.getD x.fst (Int.toNat y.fst) (Kd.dft (Kd.int IntKind.i64)) < (0 : Int)) = false → True) ∧
                                          (decide (List.getD x.fst (Int.toNat y.fst) (Kd.dft (Kd.int IntKind.i64)) < (0 : Int)) = false →
                                              (decide (List.getD x.fst (Int.toNat y.fst) (Kd.dft (Kd.int IntKind.i64)) < (0 : Int)) == false) = true ∧ True) ∧
                                            (decide (List.getD x.fst (Int.toNat y.fst) (Kd.dft (Kd.int IntKind.i64)) < (0 : Int)) = false →
                                                (decide (List.getD x.fst (Int.toNat y.fst) (Kd.dft (Kd.int IntKind.i64)) < (0 : Int)) == false) = true) ∧
                                              ((bif decide (List.getD x.fst (Int.toNat y.fst) (Kd.dft (Kd.int IntKind.i64)) < (0 : Int)) then true
                                                    else decide ((2147483647 : Int) < List.getD x.fst (Int.toNat y.fst) (Kd.dft (Kd.int IntKind.i64)))) =
                                                    true →
                                                  false = true) ∧
                                                ((bif decide (List.getD x.fst (Int.toNat y.fst) (Kd.dft (Kd.int IntKind.i64)) < (0 : Int)) then true
                                                    else decide ((2147483647 : Int) < List.getD x.fst (Int.toNat y.fst) (Kd.dft (Kd.int IntKind.i64)))) =
                                                    false →
                                                  (↑(List.length x.fst) : Int) = (↑(List.length x.fst) : Int) ∧
                                                    x.fst = x.fst ∧
                                                      Value.bool false = Value.bool false ∧
                                                        x.fst = x.fst ∧
                                                          I (IntKind.wrap IntKind.i64 (y.fst + (1 : Int)), y.snd.fst, ()) () ∧
                                                            μ (IntKind.wrap IntKind.i64 (y.fst + (1 : Int)), y.snd.fst, ()) () < μ y z)) ∧
                                    (decide (y.fst < (↑(List.length x.fst) : Int)) = false →
                                      ((0 : Int) ≤ (0 : Int) ∧ (0 : Int) < (↑(List.length x.fst) : Int)) ∧
                                        (decide (List.getD x.fst (0 : Nat) (Kd.dft (Kd.int IntKind.i64)) = (0 : Int)) = true →
                                            ((0 : Int) ≤ (1 : Int) ∧ (1 : Int) < (↑(List.length x.fst) : Int)) ∧ decide (List.getD x.fst (1 : Nat) (Kd.dft (Kd.int IntKind.i64)) < (40 : Int)) = true) ∧
                                          (decide (List.getD x.fst (0 : Nat) (Kd.dft (Kd.int IntKind.i64)) = (0 : Int)) = false →
                                            (decide (List.getD x.fst (0 : Nat) (Kd.dft (Kd.int IntKind.i64)) = (1 : Int)) = true →
                                                ((0 : Int) ≤ (1 : Int) ∧ (1 : Int) < (↑(List.length x.fst) : Int)) ∧
                                                  decide (List.getD x.fst (1 : Nat) (Kd.dft (Kd.int IntKind.i64)) < (40 : Int)) = true) ∧
                                              (decide (List.getD x.fst (0 : Nat) (Kd.dft (Kd.int IntKind.i64)) = (1 : Int)) = false →
                                                (decide (List.getD x.fst (0 : Nat) (Kd.dft (Kd.int IntKind.i64)) = (2 : Int)) = true →
                                                    ((0 : Int) ≤ (1 : Int) ∧ (1 : Int) < (↑(List.length x.fst) : Int)) ∧
                                                      decide (List.getD x.fst (1 : Nat) (Kd.dft (Kd.int IntKind.i64)) ≤ (2147483567 : Int)) = true) ∧
                                                  (decide (List.getD x.fst (0 : Nat) (Kd.dft (Kd.int IntKind.i64)) = (2 : Int)) = false → false = true)))))
theorem e12 : t12 = Con.vc c12 GL (mkEnv ty [] [] [] [0, 2, 4, 12, 13, 14, 15, 16, 24, 28, 29, 36]) {} Try.f12.ntmps Try.f12.results.toList (bodyOf Try.f12) := by kernel_rfl
theorem k12 : t12 := by
  unfold t12
  rintro ⟨l, _⟩ hx hp
  have hl : l = [1, 2] := hp
  have hlen : l.length = 2 := by rw [hl]; rfl
  have g0 : l.getD 0 (Kd.dft (Kd.int .i64)) = 1 := by rw [hl]; rfl
  have g1 : l.getD 1 (Kd.dft (Kd.int .i64)) = 2 := by rw [hl]; rfl
  clear hx hp hl
  simp only [true_and, and_true, eq_self_iff_true, implies_true, reduceCtorEq, false_implies, true_implies, decide_eq_true_eq, decide_eq_false_iff_not, beq_self_eq_true, Bool.not_eq_true', ne_eq, Decidable.not_not, List.nil_append, List.length_singleton, List.length_cons, List.length_nil, Nat.zero_add, Nat.add_zero, Nat.mul_one, and_self, beq_iff_eq, Bool.not_true, Bool.not_false, Bool.not_eq_false', Bool.cond_false_right, Bool.and_eq_true, imp_self, Bool.not_eq_true, Bool.cond_true_left, Bool.or_eq_true]
  refine ⟨fun h => by omega, fun _ => ⟨fun y _ => 0 ≤ y.1, fun y _ => (2 - y.1).toNat, by omega, ?_⟩⟩
  rintro ⟨i, _, _⟩ _ hw h1
  simp only at h1 hw ⊢
  refine ⟨fun hc => ?_, fun hc => ⟨by omega, fun h => by omega, fun h => ⟨fun h1 => ⟨by omega, by omega⟩, fun h1 => by omega⟩⟩⟩
  have hi : l.getD i.toNat (Kd.dft (Kd.int .i64)) = 1 ∨ l.getD i.toNat (Kd.dft (Kd.int .i64)) = 2 := by
    have : i.toNat = 0 ∨ i.toNat = 1 := by omega
    rcases this with h | h
    · rw [h]; exact .inl g0
    · rw [h]; exact .inr g1
  rw [wrap1 h1 (n := 2) (by omega) (by decide)]
  exact ⟨by omega, fun h => by omega, fun _ => ⟨by omega, by omega⟩⟩
theorem h12 : c12.ok Try.prog GL 12 := con_ok (H := {}) (mkEnv_ok (gl := GL) (l := []) (q := []) (d := []) _ tyOk (by kernel_rfl) trivial trivial trivial) (by kernel_rfl) (by kernel_rfl) (Eq.mp e12 k12)

def t4 : Prop :=
  ∀ (x : List Int × Int × Unit),
    Kd.wf (Kd.sl (Kd.int IntKind.u8)) x.fst ∧ Kd.wf (Kd.int IntKind.i64) x.snd.fst ∧ True →
      ABulk [AK.dat (Kd.sl (Kd.int IntKind.u8)), AK.dat (Kd.int IntKind.i64)] x ≤ (1048576 : Nat) →
        List.length [SV.dat (Kd.int IntKind.i64) x.snd.fst] ≤ (65536 : Nat) ∧
          (1 : Nat) ≤ (65536 : Nat) ∧
            (0 : Nat) < (1 : Nat) ∧
              ((0 : Nat) + List.length x.fst) * (1 : Nat) ≤ (140737488355328 : Nat) ∧
                (0 : Nat) + List.length x.fst ≤ (9223372036854775807 : Nat) ∧
                  List.length x.fst ≤ (1048576 : Nat) ∧
                    (∀ (y : List Int × List Int × Unit),
                        Kd.wf (Kd.sl (Kd.int IntKind.i64)) y.fst ∧ Kd.wf (Kd.sl (Kd.int IntKind.i64)) y.snd.fst ∧ True →
                          (y.fst, y.snd.fst) = (List.map (fun (x : Int × Int) => x.fst) (ArcsD x.fst), List.map (fun (x : Int × Int) => x.snd) (ArcsD x.fst)) →
                            (1 : Nat) ≤ (65536 : Nat) ∧
                              (1 : Nat) ≤ (65536 : Nat) ∧
                                List.length ([] ++ x.fst) ≤ (1000000000 : Nat) ∧
                                  (∀ (y_1 : List Int × Unit),
                                      Kd.wf (Kd.sl (Kd.int IntKind.u8)) y_1.fst ∧ True →
                                        y_1.fst = [] ++ x.fst →
                                          (1 : Nat) ≤ (65536 : Nat) ∧
                                            ∃ (I : Int × Unit → (Int × Unit) × (Bool × Unit) × List Int × List Int × List Int × Unit × Unit × List Int × Unit × Unit → Prop),
                                              ∃ (μ : Int × Unit → (Int × Unit) × (Bool × Unit) × List Int × List Int × List Int × Unit × Unit × List Int × Unit × Unit → Nat),
                                                (Value.bool false = Value.bool false ∧
                                                    x.fst = x.fst ∧ x.snd.fst = x.snd.fst ∧ I ((0 : Int), ()) ((x.snd.fst, ()), (false, ()), [] ++ x.fst, y.fst, y.snd.fst, (), (), y_1.fst, (), ())) ∧
                                                  ∀ (y : Int × Unit) (z : (Int × Unit) × (Bool × Unit) × List Int × List Int × List Int × Unit × Unit × List Int × Unit × Unit),
                                                    Kd.wf (Kd.int IntKind.i64) y.fst ∧ True →
                                                      (Kd.wf (Kd.int IntKind.i64) z.fst.fst ∧ True) ∧
                                                          (Kd.wf Kd.bool z.snd.fst.fst ∧ True) ∧
                                                            Kd.wf (Kd.sl (Kd.int IntKind.u8)) z.snd.snd.fst ∧
                                                              Kd.wf (Kd.sl (Kd.int IntKind.i64)) z.snd.snd.snd.fst ∧
                                                                Kd.wf (Kd.sl (Kd.int IntKind.i64)) z.snd.snd.snd.snd.fst ∧
                                                                  True ∧ True ∧ Kd.wf (Kd.sl (Kd.int IntKind.u8)) z.snd.snd.snd.snd.snd.snd.snd.fst ∧ True ∧ True →
                                                        I y z →
                                                          (decide (y.fst < (↑(List.length z.snd.snd.fst) : Int)) = true →
                                                              ((0 : Int) ≤ y.fst ∧ y.fst < (↑(List.length z.snd.snd.fst) : Int)) ∧
                                                                ((0 : Int) ≤ y.fst ∧ y.fst < (↑(List.length z.snd.snd.fst) : Int)) ∧
                                                                  Value.bool false = Value.bool false ∧
                                                                    x.fst = x.fst ∧
                                                                      x.snd.fst = x.snd.fst ∧
                                                                        I (IntKind.wrap IntKind.i64 (y.fst + (1 : Int)), ())
                                                                            ((z.fst.fst, ()), (z.snd.fst.fst, ()),
                                                                              List.set z.snd.snd.fst (Int.toNat y.fst)
                                                                                (IntKind.wrap IntKind.u8 (List.getD z.snd.snd.fst (Int.toNat y.fst) (Kd.dft (Kd.int IntKind.u8)) + (1 : Int))),
                                                                              z.snd.snd.snd.fst, z.snd.snd.snd.snd.fst, (), (), z.snd.snd.snd.snd.snd.snd.snd.fst, (), ()) ∧
                                                                          μ (IntKind.wrap IntKind.i64 (y.fst + (1 : Int)), ())
                                                                              ((z.fst.fst, ()), (z.snd.fst.fst, ()),
                                                                                List.set z.snd.snd.fst (Int.toNat y.fst)
                                                                                  (IntKind.wrap IntKind.u8 (List.getD z.snd.snd.fst (Int.toNat y.fst) (Kd.dft (Kd.int IntKind.u8)) + (1 : Int))),
                                                                                z.snd.snd.snd.fst, z.snd.snd.snd.snd.fst, (), (), z.snd.snd.snd.snd.snd.snd.snd.fst, (), ()) <
                                                                            μ y z) ∧
                                                            (decide (y.fst < (↑(List.length z.snd.snd.fst) : Int)) = false →
                                                              (1 : Nat) ≤ (65536 : Nat) ∧
                                                                ∃ (J :
                                                                  Unit →
                                                                    (Int × Unit) × (Bool × Unit) × List Int × List Int × List Int × Unit × Unit × List Int × Unit × (Int × Unit) × Unit → Prop),
                                                                  (∃ (I :
                                                                      Int × Unit →
                                                                        (Int × Unit) × (Bool × Unit) × List Int × List Int × List Int × Unit × Unit × List Int × Unit × (Int × Unit) × Unit →
                                                                          Prop),
                                                                      ∃ (μ :
                                                                        Int × Unit →
                                                                          (Int × Unit) × (Bool × Unit) × List Int × List Int × List Int × Unit × Unit × List Int × Unit × (Int × Unit) × Unit →
                                                                            Nat),
                                                                        (Value.bool false = Value.bool false ∧
                                                                            y.fst = y.fst ∧
                                                                              Value.bool false = Value.bool false ∧
                                                                                x.fst = x.fst ∧
                                                                                  x.snd.fst = x.snd.fst ∧
                                                                                    I ((0 : Int), ())
                                                                                      ((z.fst.fst, ()), (z.snd.fst.fst, ()), z.snd.snd.fst, z.snd.snd.snd.fst, z.snd.snd.snd.snd.fst, (), (),
                                                                                        z.snd.snd.snd.snd.snd.snd.snd.fst, (), ((0 : Int), ()), ())) ∧
                                                                          ∀ (y_2 : Int × Unit)
                                                                            (z :
                                                                              (Int × Unit) × (Bool × Unit) × List Int × List Int × List Int × Unit × Unit × List Int × Unit × (Int × Unit) × Unit),
                                                                            Kd.wf (Kd.int IntKind.i64) y_2.fst ∧ True →
                                                                              (Kd.wf (Kd.int IntKind.i64) z.fst.fst ∧ True) ∧
                                                                                  (Kd.wf Kd.bool z.snd.fst.fst ∧ True) ∧
                                                                                    Kd.wf (Kd.sl (Kd.int IntKind.u8)) z.snd.snd.fst ∧
                                                                                      Kd.wf (Kd.sl (Kd.int IntKind.i64)) z.snd.snd.snd.fst ∧
                                                                                        Kd.wf (Kd.sl (Kd.int IntKind.i64)) z.snd.snd.snd.snd.fst ∧
                                                                                          True ∧
                                                                                            True ∧
                                                                                              Kd.wf (Kd.sl (Kd.int IntKind.u8)) z.snd.snd.snd.snd.snd.snd.snd.fst ∧
                                                                                                True ∧ (Kd.wf (Kd.int IntKind.i64) z.snd.snd.snd.snd.snd.snd.snd.snd.snd.fst.fst ∧ True) ∧ True →
                                                                                I y_2 z →
                                                                                  (decide (y_2.fst < (↑(List.length z.snd.snd.snd.snd.snd.snd.snd.fst) : Int)) = true →
                                                                                      (0 : Int) ≤ y_2.fst ∧
                                                                                        (∀ (y_3 : Int × Int × Bool × Unit),
                                                                                            Kd.wf (Kd.int IntKind.i64) y_3.fst ∧
                                                                                                Kd.wf (Kd.int IntKind.i64) y_3.snd.fst ∧ Kd.wf Kd.bool y_3.snd.snd.fst ∧ True →
                                                                                              (y_3.fst, y_3.snd.fst, y_3.snd.snd.fst) = StepD z.snd.snd.snd.snd.snd.snd.snd.fst y_2.fst →
                                                                                                ((!y_3.snd.snd.fst) = false → True) ∧
                                                                                                  ((!y_3.snd.snd.fst) = false → True) ∧
                                                                                                    ((!y_3.snd.snd.fst) = false → True) ∧
                                                                                                      ((!y_3.snd.snd.fst) = false →
                                                                                                          ((!y_3.snd.snd.fst) == false) = true ∧
                                                                                                            ((!y_3.snd.snd.fst) == false) = true ∧
                                                                                                              ((!y_3.snd.snd.fst) == false) = true ∧
                                                                                                                (decide (z.snd.snd.snd.snd.snd.snd.snd.snd.snd.fst.fst = z.fst.fst) = true →
                                                                                                                    Value.bool false = Value.bool false ∧
                                                                                                                      y.fst = y.fst ∧
                                                                                                                        Value.bool false = Value.bool false ∧
                                                                                                                          x.fst = x.fst ∧
                                                                                                                            x.snd.fst = x.snd.fst ∧
                                                                                                                              J ()
                                                                                                                                ((z.fst.fst, ()), (z.snd.fst.fst, ()), z.snd.snd.fst, z.snd.snd.snd.fst,
                                                                                                                                  z.snd.snd.snd.snd.fst, (), (), z.snd.snd.snd.snd.snd.snd.snd.fst, (),
                                                                                                                                  (z.snd.snd.snd.snd.snd.snd.snd.snd.snd.fst.fst, ()), ())) ∧
                                                                                                                  (decide (z.snd.snd.snd.snd.snd.snd.snd.snd.snd.fst.fst = z.fst.fst) = false →
                                                                                                                    Value.bool false = Value.bool false ∧
                                                                                                                      y.fst = y.fst ∧
                                                                                                                        Value.bool false = Value.bool false ∧
                                                                                                                          x.fst = x.fst ∧
                                                                                                                            x.snd.fst = x.snd.fst ∧
                                                                                                                              I (y_3.snd.fst, ())
                                                                                                                                  ((z.fst.fst, ()), (z.snd.fst.fst, ()), z.snd.snd.fst, z.snd.snd.snd.fst,
                                                                                                                                    z.snd.snd.snd.snd.fst, (), (), z.snd.snd.snd.snd.snd.snd.snd.fst, (),
                                                                                                                                    (IntKind.wrap IntKind.i64
                                                                                                                                        (z.snd.snd.snd.snd.snd.snd.snd.snd.snd.fst.fst + (1 : Int)),
                                                                                                                                      ()),
                                                                                                                                    ()) ∧
                                                                                                                                μ (y_3.snd.fst, ())
                                                                                                                                    ((z.fst.fst, ()), (z.snd.fst.fst, ()), z.snd.snd.fst,
                                                                                                                                      z.snd.snd.snd.fst, z.snd.snd.snd.snd.fst, (), (),
                                                                                                                                      z.snd.snd.snd.snd.snd.snd.snd.fst, (),
                                                                                                                                      (IntKind.wrap IntKind.i64
                                                                                                                                          (z.snd.snd.snd.snd.snd.snd.snd.snd.snd.fst.fst + (1 : Int)),
                                                                                                                                        ()),
                                                                                                                                      ()) <
                                                                                                                                  μ y_2 z)) ∧
                                                                                                        ((!y_3.snd.snd.fst) = !false →
                                                                                                          Value.bool false = Value.bool false ∧
                                                                                                            y.fst = y.fst ∧
                                                                                                              Value.bool false = Value.bool false ∧
                                                                                                                x.fst = x.fst ∧
                                                                                                                  x.snd.fst = x.snd.fst ∧
                                                                                                                    J ()
                                                                                                                      ((z.fst.fst, ()), (z.snd.fst.fst, ()), z.snd.snd.fst, z.snd.snd.snd.fst,
                                                                                                                        z.snd.snd.snd.snd.fst, (), (), z.snd.snd.snd.snd.snd.snd.snd.fst, (),
                                                                                                                        (z.snd.snd.snd.snd.snd.snd.snd.snd.snd.fst.fst, ()), ()))) ∧
                                                                                          True) ∧
                                                                                    (decide (y_2.fst < (↑(List.length z.snd.snd.snd.snd.snd.snd.snd.fst) : Int)) = false →
                                                                                      Value.bool false = Value.bool false ∧
                                                                                        y.fst = y.fst ∧
                                                                                          Value.bool false = Value.bool false ∧
                                                                                            x.fst = x.fst ∧
                                                                                              x.snd.fst = x.snd.fst ∧
                                                                                                J ()
                                                                                                  ((z.fst.fst, ()), (z.snd.fst.fst, ()), z.snd.snd.fst, z.snd.snd.snd.fst, z.snd.snd.snd.snd.fst, (), (),
                                                                                                    z.snd.snd.snd.snd.snd.snd.snd.fst, (), (z.snd.snd.snd.snd.snd.snd.snd.snd.snd.fst.fst, ()), ()))) ∧
                                                                    ∀ (u : Unit)
                                                                      (z : (Int × Unit) × (Bool × Unit) × List Int × List Int × List Int × Unit × Unit × List Int × Unit × (Int × Unit) × Unit),
                                                                      True →
                                                                        (Kd.wf (Kd.int IntKind.i64) z.fst.fst ∧ True) ∧
                                                                            (Kd.wf Kd.bool z.snd.fst.fst ∧ True) ∧
                                                                              Kd.wf (Kd.sl (Kd.int IntKind.u8)) z.snd.snd.fst ∧
                                                                                Kd.wf (Kd.sl (Kd.int IntKind.i64)) z.snd.snd.snd.fst ∧
                                                                                  Kd.wf (Kd.sl (Kd.int IntKind.i64)) z.snd.snd.snd.snd.fst ∧
                                                                                    True ∧
                                                                                      True ∧
                                                                                        Kd.wf (Kd.sl (Kd.int IntKind.u8)) z.snd.snd.snd.snd.snd.snd.snd.fst ∧
                                                                                          True ∧ (Kd.wf (Kd.int IntKind.i64) z.snd.snd.snd.snd.snd.snd.snd.snd.snd.fst.fst ∧ True) ∧ True →
                                                                          J u z →
                                                                            ∃ (J :
                                                                              Unit →
                                                                                (Int × Unit) ×
                                                                                    (Bool × Unit) × List Int × List Int × List Int × Unit × Unit × List Int × Unit × (Int × Unit) × Unit →
                                                                                  Prop),
                                                                              (∃ (I :
                                                                                  Int × Unit →
                                                                                    (Int × Unit) ×
                                                                                        (Bool × Unit) × List Int × List Int × List Int × Unit × Unit × List Int × Unit × (Int × Unit) × Unit →
                                                                                      Prop),
                                                                                  ∃ (μ :
                                                                                    Int × Unit →
                                                                                      (Int × Unit) ×
                                                                                          (Bool × Unit) × List Int × List Int × List Int × Unit × Unit × List Int × Unit × (Int × Unit) × Unit →
                                                                                        Nat),
                                                                                    (Value.bool false = Value.bool false ∧
                                                                                        y.fst = y.fst ∧
                                                                                          Value.bool false = Value.bool false ∧
                                                                                            x.fst = x.fst ∧
                                                                                              x.snd.fst = x.snd.fst ∧
                                                                                                I ((0 : Int), ())
                                                                                                  ((z.fst.fst, ()), (z.snd.fst.fst, ()), z.snd.snd.fst, z.snd.snd.snd.fst, z.snd.snd.snd.snd.fst, (), (),
                                                                                                    z.snd.snd.snd.snd.snd.snd.snd.fst, (), ((0 : Int), ()), ())) ∧
                                                                                      ∀ (y_2 : Int × Unit)
                                                                                        (z :
                                                                                          (Int × Unit) ×
                                                                                            (Bool × Unit) × List Int × List Int × List Int × Unit × Unit × List Int × Unit × (Int × Unit) × Unit),
                                                                                        Kd.wf (Kd.int IntKind.i64) y_2.fst ∧ True →
                                                                                          (Kd.wf (Kd.int IntKind.i64) z.fst.fst ∧ True) ∧
                                                                                              (Kd.wf Kd.bool z.snd.fst.fst ∧ True) ∧
                                                                                                Kd.wf (Kd.sl (Kd.int IntKind.u8)) z.snd.snd.fst ∧
                                                                                                  Kd.wf (Kd.sl (Kd.int IntKind.i64)) z.snd.snd.snd.fst ∧
                                                                                                    Kd.wf (Kd.sl (Kd.int IntKind.i64)) z.snd.snd.snd.snd.fst ∧
                                                                                                      True ∧
                                                                                                        True ∧
                                                                                                          Kd.wf (Kd.sl (Kd.int IntKind.u8)) z.snd.snd.snd.snd.snd.snd.snd.fst ∧
                                                                                                            True ∧
                                                                                                              (Kd.wf (Kd.int IntKind.i64) z.snd.snd.snd.snd.snd.snd.snd.snd.snd.fst.fst ∧ True) ∧ True →
                                                                                            I y_2 z →
                                                                                              (decide (y_2.fst < (↑(List.length z.snd.snd.snd.snd.snd.snd.snd.fst) : Int)) = true →
                                                                                                  (0 : Int) ≤ y_2.fst ∧
                                                                                                    (∀ (y_3 : Int × Int × Bool × Unit),
                                                                                                        Kd.wf (Kd.int IntKind.i64) y_3.fst ∧
                                                                                                            Kd.wf (Kd.int IntKind.i64) y_3.snd.fst ∧ Kd.wf Kd.bool y_3.snd.snd.fst ∧ True →
                                                                                                          (y_3.fst, y_3.snd.fst, y_3.snd.snd.fst) = StepD z.snd.snd.snd.snd.snd.snd.snd.fst y_2.fst →
                                                                                                            ((!y_3.snd.snd.fst) = false → True) ∧
                                                                                                              ((!y_3.snd.snd.fst) = false → True) ∧
                                                                                                                ((!y_3.snd.snd.fst) = false → True) ∧
                                                                                                                  ((!y_3.snd.snd.fst) = false →
                                                                                                                      ((!y_3.snd.snd.fst) == false) = true ∧
                                                                                                                        ((!y_3.snd.snd.fst) == false) = true ∧
                                                                                                                          ((!y_3.snd.snd.fst) == false) = true ∧
                                                                                                                            (decide
                                                                                                                                    ((↑(List.length z.snd.snd.snd.snd.fst) : Int) ≤
                                                                                                                                      z.snd.snd.snd.snd.snd.snd.snd.snd.snd.fst.fst) =
                                                                                                                                  false →
                                                                                                                                True) ∧
                                                                                                                              (decide
                                                                                                                                      ((↑(List.length z.snd.snd.snd.snd.fst) : Int) ≤
                                                                                                                                        z.snd.snd.snd.snd.snd.snd.snd.snd.snd.fst.fst) =
                                                                                                                                    false →
                                                                                                                                  True) ∧
                                                                                                                                (decide
                                                                                                                                        ((↑(List.length z.snd.snd.snd.snd.fst) : Int) ≤
                                                                                                                                          z.snd.snd.snd.snd.snd.snd.snd.snd.snd.fst.fst) =
                                                                                                                                      false →
                                                                                                                                    True) ∧
                                                                                                                                  (decide
                                                                                                                                          ((↑(List.length z.snd.snd.snd.snd.fst) : Int) ≤
                                                                                                                                            z.snd.snd.snd.snd.snd.snd.snd.snd.snd.fst.fst) =
                                                                                                                                        false →
                                                                                                                                      (decide
                                                                                                                                              ((↑(List.length z.snd.snd.snd.snd.fst) : Int) ≤
                                                                                                                                                z.snd.snd.snd.snd.snd.snd.snd.snd.snd.fst.fst) ==
                                                                                                                                            false) =
                                                                                                                                          true ∧
                                                                                                                                        (decide
                                                                                                                                                ((↑(List.length z.snd.snd.snd.snd.fst) : Int) ≤
                                                                                                                                                  z.snd.snd.snd.snd.snd.snd.snd.snd.snd.fst.fst) ==
                                                                                                                                              false) =
                                                                                                                                            true ∧
                                                                                                                                          ((0 : Int) ≤ z.snd.snd.snd.snd.snd.snd.snd.snd.snd.fst.fst ∧
                                                                                                                                              z.snd.snd.snd.snd.snd.snd.snd.snd.snd.fst.fst <
                                                                                                                                                (↑(List.length z.snd.snd.snd.fst) : Int)) ∧
                                                                                                                                            True) ∧
                                                                                                                                    (decide
                                                                                                                                            ((↑(List.length z.snd.snd.snd.snd.fst) : Int) ≤
                                                                                                                                              z.snd.snd.snd.snd.snd.snd.snd.snd.snd.fst.fst) =
                                                                                                                                          false →
                                                                                                                                        (decide
                                                                                                                                                ((↑(List.length z.snd.snd.snd.snd.fst) : Int) ≤
                                                                                                                                                  z.snd.snd.snd.snd.snd.snd.snd.snd.snd.fst.fst) ==
                                                                                                                                              false) =
                                                                                                                                            true ∧
                                                                                                                                          True) ∧
                                                                                                                                      (decide
                                                                                                                                              ((↑(List.length z.snd.snd.snd.snd.fst) : Int) ≤
                                                                                                                                                z.snd.snd.snd.snd.snd.snd.snd.snd.snd.fst.fst) =
                                                                                                                                            false →
                                                                                                                                          (decide
                                                                                                                                                  ((↑(List.length z.snd.snd.snd.snd.fst) : Int) ≤
                                                                                                                                                    z.snd.snd.snd.snd.snd.snd.snd.snd.snd.fst.fst) ==
                                                                                                                                                false) =
                                                                                                                                              true ∧
                                                                                                                                            (decide
                                                                                                                                                    ((↑(List.length z.snd.snd.snd.snd.fst) : Int) ≤
                                                                                                                                                      z.snd.snd.snd.snd.snd.snd.snd.snd.snd.fst.fst) ==
                                                                                                                                                  false) =
                                                                                                                                                true ∧
                                                                                                                                              True) ∧
                                                                                                                                        (decide
                                                                                                                                                ((↑(List.length z.snd.snd.snd.snd.fst) : Int) ≤
                                                                                                                                                  z.snd.snd.snd.snd.snd.snd.snd.snd.snd.fst.fst) =
                                                                                                                                              false →
                                                                                                                                            (decide
                                                                                                                                                  ((↑(List.length z.snd.snd.snd.snd.fst) : Int) ≤
                                                                                                                                                    z.snd.snd.snd.snd.snd.snd.snd.snd.snd.fst.fst) ==
                                                                                                                                                false) =
                                                                                                                                              true) ∧
                                                                                                                                          ((bif
                                                                                                                                                    decide
                                                                                                                                                      ((↑(List.length z.snd.snd.snd.snd.fst) : Int) ≤
                                                                                                                                                        z.snd.snd.snd.snd.snd.snd.snd.snd.snd.fst.fst) then
                                                                                                                                                  true
                                                                                                                                                else
                                                                                                                                                  decide
                                                                                                                                                    (y_2.fst ≠
                                                                                                                                                      List.getD z.snd.snd.snd.fst
                                                                                                                                                        (Int.toNat
                                                                                                                                                          z.snd.snd.snd.snd.snd.snd.snd.snd.snd.fst.fst)
                                                                                                                                                        (Kd.dft (Kd.int IntKind.i64)))) =
                                                                                                                                                false →
                                                                                                                                              True) ∧
                                                                                                                                            ((bif
                                                                                                                                                      decide
                                                                                                                                                        ((↑(List.length z.snd.snd.snd.snd.fst) : Int) ≤
                                                                                                                                                          z.snd.snd.snd.snd.snd.snd.snd.snd.snd.fst.fst) then
                                                                                                                                                    true
                                                                                                                                                  else
                                                                                                                                                    decide
                                                                                                                                                      (y_2.fst ≠
                                                                                                                                                        List.getD z.snd.snd.snd.fst
                                                                                                                                                          (Int.toNat
                                                                                                                                                            z.snd.snd.snd.snd.snd.snd.snd.snd.snd.fst.fst)
                                                                                                                                                          (Kd.dft (Kd.int IntKind.i64)))) =
                                                                                                                                                  false →
                                                                                                                                                True) ∧
                                                                                                                                              ((bif
                                                                                                                                                        decide
                                                                                                                                                          ((↑(List.length z.snd.snd.snd.snd.fst) : Int) ≤
                                                                                                                                                            z.snd.snd.snd.snd.snd.snd.snd.snd.snd.fst.fst) then
                                                                                                                                                      true
                                                                                                                                                    else
                                                                                                                                                      decide
                                                                                                                                                        (y_2.fst ≠
                                                                                                                                                          List.getD z.snd.snd.snd.fst
                                                                                                                                                            (Int.toNat
                                                                                                                                                              z.snd.snd.snd.snd.snd.snd.snd.snd.snd.fst.fst)
                                                                                                                                                            (Kd.dft (Kd.int IntKind.i64)))) =
                                                                                                                                                    false →
                                                                                                                                                  True) ∧
                                                                                                                                                ((bif
                                                                                                                                                          decide
                                                                                                                                                            ((↑(List.length z.snd.snd.snd.snd.fst) :
                                                                                                                                                                Int) ≤
                                                                                                                                                              z.snd.snd.snd.snd.snd.snd.snd.snd.snd.fst.fst) then
                                                                                                                                                        true
                                                                                                                                                      else
                                                                                                                                                        decide
                                                                                                                                                          (y_2.fst ≠
                                                                                                                                                            List.getD z.snd.snd.snd.fst
                                                                                                                                                              (Int.toNat
                                                                                                                                                                z.snd.snd.snd.snd.snd.snd.snd.snd.snd.fst.fst)
                                                                                                                                                              (Kd.dft (Kd.int IntKind.i64)))) =
                                                                                                                                                      false →
                                                                                                                                                    ((bif
                                                                                                                                                              decide
                                                                                                                                                                ((↑(List.length z.snd.snd.snd.snd.fst) :
                                                                                                                                                                    Int) ≤
                                                                                                                                                                  z.snd.snd.snd.snd.snd.snd.snd.snd.snd.fst.fst) then
                                                                                                                                                            true
                                                                                                                                                          else
                                                                                                                                                            decide
                                                                                                                                                              (y_2.fst ≠
                                                                                                                                                                List.getD z.snd.snd.snd.fst
                                                                                                                                                                  (Int.toNat
                                                                                                                                                                    z.snd.snd.snd.snd.snd.snd.snd.snd.snd.fst.fst)
                                                                                                                                                                  (Kd.dft (Kd.int IntKind.i64)))) ==
                                                                                                                                                          false) =
                                                                                                                                                        true ∧
                                                                                                                                                      ((bif
                                                                                                                                                                decide
                                                                                                                                                                  ((↑(List.length z.snd.snd.snd.snd.fst) :
                                                                                                                                                                      Int) ≤
                                                                                                                                                                    z.snd.snd.snd.snd.snd.snd.snd.snd.snd.fst.fst) then
                                                                                                                                                              true
                                                                                                                                                            else
                                                                                                                                                              decide
                                                                                                                                                                (y_2.fst ≠
                                                                                                                                                                  List.getD z.snd.snd.snd.fst
                                                                                                                                                                    (Int.toNat
                                                                                                                                                                      z.snd.snd.snd.snd.snd.snd.snd.snd.snd.fst.fst)
                                                                                                                                                                    (Kd.dft (Kd.int IntKind.i64)))) ==
                                                                                                                                                            false) =
                                                                                                                                                          true ∧
                                                                                                                                                        ((0 : Int) ≤
                                                                                                                                                              z.snd.snd.snd.snd.snd.snd.snd.snd.snd.fst.fst ∧
                                                                                                                                                            z.snd.snd.snd.snd.snd.snd.snd.snd.snd.fst.fst <
                                                                                                                                                              (↑(List.length z.snd.snd.snd.snd.fst) :
                                                                                                                                                                Int)) ∧
                                                                                                                                                          True) ∧
                                                                                                                                                  ((bif
                                                                                                                                                            decide
                                                                                                                                                              ((↑(List.length z.snd.snd.snd.snd.fst) :
                                                                                                                                                                  Int) ≤
                                                                                                                                                                z.snd.snd.snd.snd.snd.snd.snd.snd.snd.fst.fst) then
                                                                                                                                                          true
                                                                                                                                                        else
                                                                                                                                                          decide
                                                                                                                                                            (y_2.fst ≠
                                                                                                                                                              List.getD z.snd.snd.snd.fst
                                                                                                                                                                (Int.toNat
                                                                                                                                                                  z.snd.snd.snd.snd.snd.snd.snd.snd.snd.fst.fst)
                                                                                                                                                                (Kd.dft (Kd.int IntKind.i64)))) =
                                                                                                                                                        false →
                                                                                                                                                      ((bif
                                                                                                                                                                decide
                                                                                                                                                                  ((↑(List.length z.snd.snd.snd.snd.fst) :
                                                                                                                                                                      Int) ≤
                                                                                                                                                                    z.snd.snd.snd.snd.snd.snd.snd.snd.snd.fst.fst) then
                                                                                                                                                              true
                                                                                                                                                            else
                                                                                                                                                              decide
                                                                                                                                                                (y_2.fst ≠
                                                                                                                                                                  List.getD z.snd.snd.snd.fst
                                                                                                                                                                    (Int.toNat
                                                                                                                                                                      z.snd.snd.snd.snd.snd.snd.snd.snd.snd.fst.fst)
                                                                                                                                                                    (Kd.dft (Kd.int IntKind.i64)))) ==
                                                                                                                                                            false) =
                                                                                                                                                          true ∧
                                                                                                                                                        True) ∧
                                                                                                                                                    ((bif
                                                                                                                                                              decide
                                                                                                                                                                ((↑(List.length z.snd.snd.snd.snd.fst) :
                                                                                                                                                                    Int) ≤
                                                                                                                                                                  z.snd.snd.snd.snd.snd.snd.snd.snd.snd.fst.fst) then
                                                                                                                                                            true
                                                                                                                                                          else
                                                                                                                                                            decide
                                                                                                                                                              (y_2.fst ≠
                                                                                                                                                                List.getD z.snd.snd.snd.fst
                                                                                                                                                                  (Int.toNat
                                                                                                                                                                    z.snd.snd.snd.snd.snd.snd.snd.snd.snd.fst.fst)
                                                                                                                                                                  (Kd.dft (Kd.int IntKind.i64)))) =
                                                                                                                                                          false →
                                                                                                                                                        ((bif
                                                                                                                                                                  decide
                                                                                                                                                                    ((↑(List.length
                                                                                                                                                                            z.snd.snd.snd.snd.fst) :
                                                                                                                                                                        Int) ≤
                                                                                                                                                                      z.snd.snd.snd.snd.snd.snd.snd.snd.snd.fst.fst) then
                                                                                                                                                                true
                                                                                                                                                              else
                                                                                                                                                                decide
                                                                                                                                                                  (y_2.fst ≠
                                                                                                                                                                    List.getD z.snd.snd.snd.fst
                                                                                                                                                                      (Int.toNat
                                                                                                                                                                        z.snd.snd.snd.snd.snd.snd.snd.snd.snd.fst.fst)
                                                                                                                                                                      (Kd.dft (Kd.int IntKind.i64)))) ==
                                                                                                                                                              false) =
                                                                                                                                                            true ∧
                                                                                                                                                          ((bif
                                                                                                                                                                    decide
                                                                                                                                                                      ((↑(List.length
                                                                                                                                                                              z.snd.snd.snd.snd.fst) :
                                                                                                                                                                          Int) ≤
                                                                                                                                                                        z.snd.snd.snd.snd.snd.snd.snd.snd.snd.fst.fst) then
                                                                                                                                                                  true
                                                                                                                                                                else
                                                                                                                                                                  decide
                                                                                                                                                                    (y_2.fst ≠
                                                                                                                                                                      List.getD z.snd.snd.snd.fst
                                                                                                                                                                        (Int.toNat
                                                                                                                                                                          z.snd.snd.snd.snd.snd.snd.snd.snd.snd.fst.fst)
                                                                                                                                                                        (Kd.dft (Kd.int IntKind.i64)))) ==
                                                                                                                                                                false) =
                                                                                                                                                              true ∧
                                                                                                                                                            True) ∧
                                                                                                                                                      ((bif
                                                                                                                                                                decide
                                                                                                                                                                  ((↑(List.length z.snd.snd.snd.snd.fst) :
                                                                                                                                                                      Int) ≤
                                                                                                                                                                    z.snd.snd.snd.snd.snd.snd.snd.snd.snd.fst.fst) then
                                                                                                                                                              true
                                                                                                                                                            else
                                                                                                                                                              decide
                                                                                                                                                                (y_2.fst ≠
                                                                                                                                                                  List.getD z.snd.snd.snd.fst
                                                                                                                                                                    (Int.toNat
                                                                                                                                                                      z.snd.snd.snd.snd.snd.snd.snd.snd.snd.fst.fst)
                                                                                                                                                                    (Kd.dft (Kd.int IntKind.i64)))) =
                                                                                                                                                            false →
                                                                                                                                                          ((bif
                                                                                                                                                                  decide
                                                                                                                                                                    ((↑(List.length
                                                                                                                                                                            z.snd.snd.snd.snd.fst) :
                                                                                                                                                                        Int) ≤
                                                                                                                                                                      z.snd.snd.snd.snd.snd.snd.snd.snd.snd.fst.fst) then
                                                                                                                                                                true
                                                                                                                                                              else
                                                                                                                                                                decide
                                                                                                                                                                  (y_2.fst ≠
                                                                                                                                                                    List.getD z.snd.snd.snd.fst
                                                                                                                                                                      (Int.toNat
                                                                                                                                                                        z.snd.snd.snd.snd.snd.snd.snd.snd.snd.fst.fst)
                                                                                                                                                                      (Kd.dft (Kd.int IntKind.i64)))) ==
                                                                                                                                                              false) =
                                                                                                                                                            true) ∧
                                                                                                                                                        ((bif
                                                                                                                                                                  bif
                                                                                                                                                                      decide
                                                                                                                                                                        ((↑(List.length
                                                                                                                                                                                z.snd.snd.snd.snd.fst) :
                                                                                                                                                                            Int) ≤
                                                                                                                                                                          z.snd.snd.snd.snd.snd.snd.snd.snd.snd.fst.fst) then
                                                                                                                                                                    true
                                                                                                                                                                  else
                                                                                                                                                                    decide
                                                                                                                                                                      (y_2.fst ≠
                                                                                                                                                                        List.getD z.snd.snd.snd.fst
                                                                                                                                                                          (Int.toNat
                                                                                                                                                                            z.snd.snd.snd.snd.snd.snd.snd.snd.snd.fst.fst)
                                                                                                                                                                          (Kd.dft
                                                                                                                                                                            (Kd.int IntKind.i64))) then
                                                                                                                                                                true
                                                                                                                                                              else
                                                                                                                                                                decide
                                                                                                                                                                  (y_3.fst ≠
                                                                                                                                                                    List.getD z.snd.snd.snd.snd.fst
                                                                                                                                                                      (Int.toNat
                                                                                                                                                                        z.snd.snd.snd.snd.snd.snd.snd.snd.snd.fst.fst)
                                                                                                                                                                      (Kd.dft (Kd.int IntKind.i64)))) =
                                                                                                                                                              true →
                                                                                                                                                            false = true) ∧
                                                                                                                                                          ((bif
                                                                                                                                                                  bif
                                                                                                                                                                      decide
                                                                                                                                                                        ((↑(List.length
                                                                                                                                                                                z.snd.snd.snd.snd.fst) :
                                                                                                                                                                            Int) ≤
                                                                                                                                                                          z.snd.snd.snd.snd.snd.snd.snd.snd.snd.fst.fst) then
                                                                                                                                                                    true
                                                                                                                                                                  else
                                                                                                                                                                    decide
                                                                                                                                                                      (y_2.fst ≠
                                                                                                                                                                        List.getD z.snd.snd.snd.fst
                                                                                                                                                                          (Int.toNat
                                                                                                                                                                            z.snd.snd.snd.snd.snd.snd.snd.snd.snd.fst.fst)
                                                                                                                                                                          (Kd.dft
                                                                                                                                                                            (Kd.int IntKind.i64))) then
                                                                                                                                                                true
                                                                                                                                                              else
                                                                                                                                                                decide
                                                                                                                                                                  (y_3.fst ≠
                                                                                                                                                                    List.getD z.snd.snd.snd.snd.fst
                                                                                                                                                                      (Int.toNat
                                                                                                                                                                        z.snd.snd.snd.snd.snd.snd.snd.snd.snd.fst.fst)
                                                                                                                                                                      (Kd.dft (Kd.int IntKind.i64)))) =
                                                                                                                                                              false →
                                                                                                                                                            Value.bool false = Value.bool false ∧
                                                                                                                                                              y.fst = y.fst ∧
                                                                                                                                                                Value.bool false = Value.bool false ∧
                                                                                                                                                                  x.fst = x.fst ∧
                                                                                                                                                                    x.snd.fst = x.snd.fst ∧
                                                                                                                                                                      I (y_3.snd.fst, ())
                                                                                                                                                                          ((z.fst.fst, ()),
                                                                                                                                                                            (z.snd.fst.fst, ()),
                                                                                                                                                                            z.snd.snd.fst,
                                                                                                                                                                            z.snd.snd.snd.fst,
                                                                                                                                                                            z.snd.snd.snd.snd.fst, (), (),
                                                                                                                                                                            z.snd.snd.snd.snd.snd.snd.snd.fst,
                                                                                                                                                                            (),
                                                                                                                                                                            (IntKind.wrap IntKind.i64
                                                                                                                                                                                (z.snd.snd.snd.snd.snd.snd.snd.snd.snd.fst.fst +
                                                                                                                                                                                  (1 : Int)),
                                                                                                                                                                              ()),
                                                                                                                                                                            ()) ∧
                                                                                                                                                                        μ (y_3.snd.fst, ())
                                                                                                                                                                            ((z.fst.fst, ()),
                                                                                                                                                                              (z.snd.fst.fst, ()),
                                                                                                                                                                              z.snd.snd.fst,
                                                                                                                                                                              z.snd.snd.snd.fst,
                                                                                                                                                                              z.snd.snd.snd.snd.fst, (),
                                                                                                                                                                              (),
                                                                                                                                                                              z.snd.snd.snd.snd.snd.snd.snd.fst,
                                                                                                                                                                              (),
                                                                                                                                                                              (IntKind.wrap IntKind.i64
                                                                                                                                                                                  (z.snd.snd.snd.snd.snd.snd.snd.snd.snd.fst.fst +
                                                                                                                                                                                    (1 : Int)),
                                                                                                                                                                                ()),
                                                                                                                                                                              ()) <
                                                                                                                                                                          μ y_2 z)) ∧
                                                                                                                    ((!y_3.snd.snd.fst) = !false →
                                                                                                                      Value.bool false = Value.bool false ∧
                                                                                                                        y.fst = y.fst ∧
                                                                                                                          Value.bool false = Value.bool false ∧
                                                                                                                            x.fst = x.fst ∧
                                                                                                                              x.snd.fst = x.snd.fst ∧
                                                                                                                                J ()
                                                                                                                                  ((z.fst.fst, ()), (z.snd.fst.fst, ()), z.snd.snd.fst, z.snd.snd.snd.fst,
                                                                                                                                    z.snd.snd.snd.snd.fst, (), (), z.snd.snd.snd.snd.snd.snd.snd.fst, (),
                                                                                                                                    (z.snd.snd.snd.snd.snd.snd.snd.snd.snd.fst.fst, ()), ()))) ∧
                                                                                                      True) ∧
                                                                                                (decide (y_2.fst < (↑(List.length z.snd.snd.snd.snd.snd.snd.snd.fst) : Int)) = false →
                                                                                                  Value.bool false = Value.bool false ∧
                                                                                                    y.fst = y.fst ∧
                                                                                                      Value.bool false = Value.bool false ∧
                                                                                                        x.fst = x.fst ∧
                                                                                                          x.snd.fst = x.snd.fst ∧
                                                                                                            J ()
                                                                                                              ((z.fst.fst, ()), (z.snd.fst.fst, ()), z.snd.snd.fst, z.snd.snd.snd.fst,
                                                                                                                z.snd.snd.snd.snd.fst, (), (), z.snd.snd.snd.snd.snd.snd.snd.fst, (),
                                                                                                                (z.snd.snd.snd.snd.snd.snd.snd.snd.snd.fst.fst, ()), ()))) ∧
                                                                                ∀ (u : Unit)
                                                                                  (z :
                                                                                    (Int × Unit) ×
                                                                                      (Bool × Unit) × List Int × List Int × List Int × Unit × Unit × List Int × Unit × (Int × Unit) × Unit),
                                                                                  True →
                                                                                    (Kd.wf (Kd.int IntKind.i64) z.fst.fst ∧ True) ∧
                                                                                        (Kd.wf Kd.bool z.snd.fst.fst ∧ True) ∧
                                                                                          Kd.wf (Kd.sl (Kd.int IntKind.u8)) z.snd.snd.fst ∧
                                                                                            Kd.wf (Kd.sl (Kd.int IntKind.i64)) z.snd.snd.snd.fst ∧
                                                                                              Kd.wf (Kd.sl (Kd.int IntKind.i64)) z.snd.snd.snd.snd.fst ∧
                                                                                                True ∧
                                                                                                  True ∧
                                                                                                    Kd.wf (Kd.sl (Kd.int IntKind.u8)) z.snd.snd.snd.snd.snd.snd.snd.fst ∧
                                                                                                      True ∧ (Kd.wf (Kd.int IntKind.i64) z.snd.snd.snd.snd.snd.snd.snd.snd.snd.fst.fst ∧ True) ∧ True →
                                                                                      J u z →
                                                                                        (decide (z.snd.snd.snd.snd.snd.snd.snd.snd.snd.fst.fst = (↑(List.length z.snd.snd.snd.snd.fst) : Int)) = true →
                                                                                            [(1 : Int), (2 : Int)] = [(1 : Int), (2 : Int)] ∧
                                                                                              (∀ (y : Bool × Unit),
                                                                                                  Kd.wf Kd.bool y.fst ∧ True →
                                                                                                    y.fst = true →
                                                                                                      (y.fst = true →
                                                                                                          True ∧
                                                                                                            (∀ (y : Bool × Unit), Kd.wf Kd.bool y.fst ∧ True → y.fst = true → y.fst = true) ∧ True) ∧
                                                                                                        (y.fst = !true → false = true)) ∧
                                                                                                True) ∧
                                                                                          (decide (z.snd.snd.snd.snd.snd.snd.snd.snd.snd.fst.fst = (↑(List.length z.snd.snd.snd.snd.fst) : Int)) = !true →
                                                                                            false = true))) ∧
                                    True) ∧
                      True
theorem e4 : t4 = Con.vc c4 GL (mkEnv ty [(10, conSem c10), (11, i11), (12, conSem c12), (9, conSem c9)] [(25, i25)] [] [0, 1, 3, 4, 5, 6, 7, 8, 9, 10, 11, 12, 24, 28, 39, 44, 47, 48, 49, 69]) {joins := [14,21]} Try.f4.ntmps Try.f4.results.toList (bodyOf Try.f4) := by kernel_rfl
theorem k4 : t4 := by
  unfold t4
  rintro ⟨l, n, _⟩ hx hp
  have hl : l.length ≤ 1048576 := by
    simp [ABulk, AK.bulk, Kd.bulk, sumOnes] at hp
    omega
  have hwf : Kd.wf BY l := hx.1
  have hA := arcs_len l
  try dsimp +instances only [dft_int, dft_sl, dft_str]
  simp only [true_and, and_true, eq_self_iff_true, implies_true, reduceCtorEq, false_implies, true_implies, decide_eq_true_eq, decide_eq_false_iff_not, beq_self_eq_true, Bool.not_eq_true', ne_eq, Decidable.not_not, List.nil_append, List.length_singleton, List.length_cons, List.length_nil, Nat.zero_add, Nat.add_zero, Nat.mul_one, and_self, beq_iff_eq, Bool.not_true, Bool.not_false, Bool.not_eq_false', Bool.cond_false_right, Bool.and_eq_true, imp_self, Bool.not_eq_true, Bool.cond_true_left, Bool.or_eq_true]
  refine ⟨by decide, by decide, by decide, by omega, by omega, hl, ?_⟩
  rintro ⟨ps0, vs0, _⟩ _ e0
  simp only at e0 ⊢
  generalize hps : List.map (fun x => x.1) (ArcsD l) = ps at e0
  generalize hvs : List.map (fun x => x.2) (ArcsD l) = vs at e0
  cases e0
  have hpl : ps0.length = (ArcsD l).length := by rw [← hps, List.length_map]
  have hvl : vs0.length = (ArcsD l).length := by rw [← hvs, List.length_map]
  refine ⟨by decide, by decide, by omega, ?_⟩
  rintro ⟨cl, _⟩ _ ecl
  have ecl : cl = l := ecl
  subst ecl
  refine ⟨by decide, ?_⟩
  refine ⟨fun y z => 0 ≤ y.1 ∧ z.2.2.1.length = cl.length ∧ z.2.2.2.1 = ps0 ∧ z.2.2.2.2.1 = vs0 ∧ z.2.2.2.2.2.2.2.1 = cl, fun y z => (z.2.2.1.length : Nat) - y.1.toNat, ⟨by omega, rfl, rfl, rfl, rfl⟩, ?_⟩
  rintro ⟨i, _⟩ ⟨⟨n1, _⟩, ⟨b1, _⟩, t5, ps, vs, _, _, c2, _, _⟩ _ _ ⟨h0, h1, h2, h3, h4⟩
  simp only at h0 h1 h2 h3 h4 ⊢
  subst h2 h3 h4
  refine ⟨fun hlt => ?_, fun _ => ⟨by decide, ?_⟩⟩
  · have hw : IntKind.wrap .i64 (i + 1) = i + 1 := wrapK _ (by omega) (by omega)
    rw [hw]
    exact ⟨⟨h0, hlt⟩, ⟨h0, hlt⟩, ⟨by omega, by simp; exact h1, by trivial, by trivial, by trivial⟩, by simp; omega⟩
  refine ⟨fun _ z => z.2.2.2.1 = ps ∧ z.2.2.2.2.1 = vs ∧ z.2.2.2.2.2.2.2.1 = c2, ?_, ?_⟩
  · refine ⟨fun y z => 0 ≤ y.1 ∧ z.2.2.2.1 = ps ∧ z.2.2.2.2.1 = vs ∧ z.2.2.2.2.2.2.2.1 = c2, fun y _ => ((c2.length : Int) - y.1).toNat, ⟨by omega, rfl, rfl, rfl⟩, ?_⟩
    rintro ⟨i2, _⟩ ⟨⟨n2, _⟩, ⟨b2, _⟩, t52, ps2, vs2, _, _, c3, _, ⟨cnt, _⟩, _⟩ _ _ ⟨g0, g1, g2, g3⟩
    simp only at g0 g1 g2 g3 ⊢
    subst g1 g2 g3
    refine ⟨fun hlt => ⟨g0, ?_⟩, fun _ => ⟨by trivial, by trivial, by trivial⟩⟩
    rintro ⟨x, j, ok, _⟩ _ es
    simp only at es ⊢
    refine ⟨fun ht => ⟨ht, ht, ht, fun _ => ⟨by trivial, by trivial, by trivial⟩, fun _ => ?_⟩, fun _ => ⟨by trivial, by trivial, by trivial⟩⟩
    subst ht
    obtain ⟨s1, s2, s3⟩ := step_true es
    have hok := next_ok hwf i2 g0 s1
    rw [← s3] at hok
    exact ⟨⟨by omega, by trivial, by trivial, by trivial⟩, by omega⟩
  rintro u ⟨⟨n2, _⟩, ⟨b2, _⟩, t52, ps2, vs2, _, _, c3, _, ⟨cnt0, _⟩, _⟩ _ ⟨g1, g2, g3⟩
  simp only at g1 g2 g3 ⊢
  subst g1 g2 g3
  refine ⟨fun _ z => z.2.2.2.2.2.2.2.2.2.1.1 = (ArcsD c3).length ∧ z.2.2.2.2.1 = vs2, ?_, ?_⟩
  · refine ⟨fun y z => 0 ≤ y.1 ∧ z.2.2.2.1 = ps2 ∧ z.2.2.2.2.1 = vs2 ∧ z.2.2.2.2.2.2.2.1 = c3 ∧ 0 ≤ z.2.2.2.2.2.2.2.2.2.1.1 ∧ z.2.2.2.2.2.2.2.2.2.1.1 ≤ (ArcsD c3).length ∧ ∃ m : Nat, (c3.length : Int) - y.1 ≤ m ∧ (ArcsD c3).drop z.2.2.2.2.2.2.2.2.2.1.1.toNat = arcR c3 m y.1, fun y _ => ((c3.length : Int) - y.1).toNat, ⟨by omega, rfl, rfl, rfl, Int.le_refl 0, Int.natCast_nonneg _, c3.length, by omega, rfl⟩, ?_⟩
    rintro ⟨i2, _⟩ ⟨⟨n3, _⟩, ⟨b3, _⟩, t53, ps3, vs3, _, _, c4, _, ⟨cnt, _⟩, _⟩ _ _ ⟨g0, g1, g2, g3, k0, k1, m, hm, hd⟩
    simp only at g0 g1 g2 g3 k0 k1 hm hd ⊢
    subst g1 g2 g3
    have atEnd : arcR c4 m i2 = [] → cnt = (ArcsD c4).length := fun h => by
      rw [h] at hd
      have := congrArg List.length hd
      simp at this
      omega
    refine ⟨fun hlt => ⟨g0, ?_⟩, fun hge => ⟨atEnd (arc_end c4 m i2 hge), by trivial⟩⟩
    rintro ⟨x, j, ok, _⟩ _ es
    simp only at es ⊢
    refine ⟨fun ht => ⟨ht, ht, ht, ?_⟩, fun hf => ⟨atEnd (arc_bad c4 m i2 (by subst hf; exact step_false es)), by trivial⟩⟩
    subst ht
    obtain ⟨s1, s2, s3⟩ := step_true es
    have hok := next_ok hwf i2 g0 s1
    rw [← s3] at hok
    obtain ⟨m, rfl⟩ : ∃ m', m = m' + 1 := ⟨m - 1, by omega⟩
    rw [arc_step c4 m i2 hlt s1, ← s2, ← s3] at hd
    have hget : (ArcsD c4)[cnt.toNat]? = some (i2, x) := by
      have := congrArg (fun t => t[0]?) hd
      simpa [List.getElem?_drop] using this
    have hcl : cnt < (ArcsD c4).length := by
      have := (List.getElem?_eq_some_iff.1 hget).1
      omega
    have hpg : ps3.getD cnt.toNat 0 = i2 := by rw [← hps, List.getD_eq_getElem?_getD, List.getElem?_map, hget]; rfl
    have hvg : vs3.getD cnt.toNat 0 = x := by rw [← hvs, List.getD_eq_getElem?_getD, List.getElem?_map, hget]; rfl
    have htl : (ArcsD c4).drop (cnt + 1).toNat = arcR c4 m j := by
      rw [show (cnt + 1).toNat = cnt.toNat + 1 by omega, ← List.tail_drop, hd]
      rfl
    have hw : IntKind.wrap .i64 (cnt + 1) = cnt + 1 := wrapK _ (by omega) (by omega)
    rw [hpg, hvg, hw]
    refine ⟨fun h => ⟨h, h, by omega, by omega⟩, fun h => ⟨h, h, by omega, by omega⟩, fun h => ?_, fun _ => ⟨⟨by omega, by trivial, by trivial, by trivial, by omega, by omega, m, by omega, htl⟩, by omega⟩⟩
    rcases h with (h | h) | h
    · omega
    · exact h rfl
    · exact h rfl
  rintro u2 ⟨⟨n3, _⟩, ⟨b3, _⟩, t53, ps3, vs3, _, _, c4, _, ⟨cnt, _⟩, _⟩ _ ⟨g1, g2⟩
  simp only at g1 g2 ⊢
  subst g2
  refine ⟨fun _ y _ hy hf => (by rw [hy] at hf; cases hf), fun h => h (by omega)⟩
theorem h4 : c4.ok Try.prog GL 4 := con_ok (H := {joins := [14,21]}) (mkEnv_ok (gl := GL) (l := [(10, conSem c10), (11, i11), (12, conSem c12), (9, conSem c9)]) (q := [(25, i25)]) (d := []) _ tyOk (by kernel_rfl) ⟨h10.call, i11_ok, h12.call, h9.call, trivial⟩ ⟨i25_ok, trivial⟩ trivial) (by kernel_rfl) (by kernel_rfl) (Eq.mp e4 k4)

end Go.Proofs.Ytkdffofjnjamlaa
