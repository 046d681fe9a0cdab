/- Walks. -/
import Derived.Test.YtkdffofjnjamlaaZA
namespace Go.Proofs.Ytkdffofjnjamlaa
open Go Go.Vc Go.Proofs
set_option linter.unusedVariables false
set_option linter.unusedSimpArgs false
theorem wrap1 {i : Int} {n : Nat} (h0 : 0 ≤ i) (h : i < n) (hn : n ≤ 9223372036854775807) : IntKind.wrap .i64 (i + 1) = i + 1 := by rw [IntKind.wrap_i64]; omega
theorem getD_at {α : Type} (l : List α) (i : Nat) (d : α) (h : i < l.length) : l.getD i d = l[i] := by
  rw [List.getD_eq_getElem?_getD, List.getElem?_eq_getElem h]; rfl
theorem cmp_step (a b : List Int) (i : Nat) (ha : i < a.length) (hb : i < b.length) : CmpD (a.drop i) (b.drop i) = if cmpI (a.getD i 0) (b.getD i 0) = 0 then CmpD (a.drop (i + 1)) (b.drop (i + 1)) else cmpI (a.getD i 0) (b.getD i 0) := by
  rw [List.drop_eq_getElem_cons ha, List.drop_eq_getElem_cons hb, getD_at a i 0 ha, getD_at b i 0 hb]
  rfl
theorem cmp_gt (a b : List Int) (i : Nat) (ha : i < a.length) (hb : b.length ≤ i) : CmpD (a.drop i) (b.drop i) = 1 := by
  rw [List.drop_eq_getElem_cons ha, List.drop_of_length_le hb]; rfl
theorem cmp_lt (a b : List Int) (i : Nat) (ha : a.length ≤ i) (hb : i < b.length) : CmpD (a.drop i) (b.drop i) = -1 := by
  rw [List.drop_eq_getElem_cons hb, List.drop_of_length_le ha]; rfl
theorem cmp_eq (a b : List Int) (i : Nat) (ha : a.length ≤ i) (hb : b.length ≤ i) : CmpD (a.drop i) (b.drop i) = 0 := by
  rw [List.drop_of_length_le hb, List.drop_of_length_le ha]; rfl
theorem cmpI_zero {a b : Int} : cmpI a b = 0 ↔ a = b := by
  unfold cmpI; split
  · omega
  · split <;> omega
theorem cmp_zero : ∀ {a b : List Int}, CmpD a b = 0 ↔ a = b
  | [], [] => by simp [CmpD]
  | [], _ :: _ => by simp [CmpD]
  | _ :: _, [] => by simp [CmpD]
  | a :: l, b :: r => by
    simp only [CmpD]
    split
    · rename_i h
      rw [cmp_zero, cmpI_zero.1 h]
      simp
    · rename_i h
      exact ⟨fun e => absurd e h, fun e => absurd (cmpI_zero.2 (List.cons.inj e).1) h⟩
theorem take_eq_step {a b : List Int} {i : Nat} (hl : a.length = b.length) (h : a.take i = b.take i) (ha : i < a.length) (he : a.getD i 0 = b.getD i 0) : a.take (i + 1) = b.take (i + 1) := by
  rw [List.take_succ_eq_append_getElem ha, List.take_succ_eq_append_getElem (by omega), h]
  rw [getD_at a i 0 ha, getD_at b i 0 (by omega)] at he
  rw [he]
def t9 : Prop :=
  ∀ (x : Unit), True → True → true = true
theorem e9 : t9 = Con.vc c9 (mkEnv ty [] [0]) {} Try.f9.ntmps Try.f9.results.toList (bodyOf Try.f9) := by kernel_rfl
theorem k9 : t9 := by
  unfold t9
  intro _ _ _
  rfl
theorem h9 : c9.ok Try.prog 9 := con_ok (E := mkEnv ty [] [0]) (H := {}) (mkEnv_ok _ tyOk (by kernel_rfl) trivial) (by kernel_rfl) (by kernel_rfl) (Eq.mp e9 k9)

noncomputable def i31 : CallSem := vcFn (mkEnv ty [] [0, 2]) {} Try.f31.ntmps Try.f31.results.toList (bodyOf Try.f31)
theorem i31_ok : CallOk Try.prog 31 i31 := inl_ok (E := (mkEnv ty [] [0, 2])) {} (mkEnv_ok _ tyOk (by kernel_rfl) trivial) (by kernel_rfl) (by kernel_rfl)

def t30 : Prop :=
  ∀ (x : Int × Int × Unit),
    Kd.wf (Kd.int IntKind.i64) x.fst ∧ Kd.wf (Kd.int IntKind.i64) x.snd.fst ∧ True →
      True →
        (decide (x.fst ≠ x.fst) = true → (decide (x.snd.fst ≠ x.snd.fst) = true → (0 : Int) = cmpI x.fst x.snd.fst) ∧ (decide (x.snd.fst ≠ x.snd.fst) = false → (-1 : Int) = cmpI x.fst x.snd.fst)) ∧
          (decide (x.fst ≠ x.fst) = false →
            (decide (x.snd.fst ≠ x.snd.fst) = true → (1 : Int) = cmpI x.fst x.snd.fst) ∧
              (decide (x.snd.fst ≠ x.snd.fst) = false →
                (decide (x.fst < x.snd.fst) = true → (-1 : Int) = cmpI x.fst x.snd.fst) ∧
                  (decide (x.fst < x.snd.fst) = false →
                    (decide (x.snd.fst < x.fst) = true → (1 : Int) = cmpI x.fst x.snd.fst) ∧ (decide (x.snd.fst < x.fst) = false → (0 : Int) = cmpI x.fst x.snd.fst))))
theorem e30 : t30 = Con.vc c30 (mkEnv ty [(31, i31)] [0, 1, 4, 5, 6, 11, 12, 13, 16, 19]) {} Try.f30.ntmps Try.f30.results.toList (bodyOf Try.f30) := by kernel_rfl
theorem k30 : t30 := by
  unfold t30
  rintro ⟨a, b, _⟩ hx hp
  simp only [true_and, and_true, eq_self_iff_true, implies_true, reduceCtorEq, false_implies, true_implies, decide_eq_true_eq, decide_eq_false_iff_not, beq_self_eq_true, Bool.not_eq_true', ne_eq, Decidable.not_not, List.nil_append, List.length_singleton, List.length_cons, List.length_nil, Nat.zero_add, Nat.add_zero, Nat.mul_one, and_self, beq_iff_eq, Bool.not_true, Bool.not_false, Bool.not_eq_false', Bool.cond_false_right, Bool.and_eq_true, imp_self, Bool.not_eq_true, Bool.cond_true_left, Bool.or_eq_true, cmpI]
  refine ⟨fun h => absurd trivial h, fun h => absurd trivial h, fun h => by rw [if_pos h], fun h => ⟨fun h2 => by rw [if_neg h, if_pos h2], fun h2 => by rw [if_neg h, if_neg h2]⟩⟩
theorem h30 : c30.ok Try.prog 30 := con_ok (E := mkEnv ty [(31, i31)] [0, 1, 4, 5, 6, 11, 12, 13, 16, 19]) (H := {}) (mkEnv_ok _ tyOk (by kernel_rfl) ⟨i31_ok, trivial⟩) (by kernel_rfl) (by kernel_rfl) (Eq.mp e30 k30)

def t27 : Prop :=
  ∀ (x : List Int × List Int × Unit),
    Kd.wf (Kd.sl (Kd.int IntKind.i64)) x.fst ∧ Kd.wf (Kd.sl (Kd.int IntKind.i64)) x.snd.fst ∧ True →
      True →
        ∃ (I : Int × Int × Unit → Unit → Prop),
          ∃ (μ : Int × Int × Unit → Unit → Nat),
            ((↑(List.length x.fst) : Int) = (↑(List.length x.fst) : Int) ∧ x.fst = x.fst ∧ x.fst = x.fst ∧ x.snd.fst = x.snd.fst ∧ I ((0 : Int), (0 : Int), ()) ()) ∧
              ∀ (y : Int × Int × Unit) (z : Unit),
                Kd.wf (Kd.int IntKind.i64) y.fst ∧ Kd.wf (Kd.int IntKind.i64) y.snd.fst ∧ True →
                  True →
                    I y z →
                      (decide (y.fst < (↑(List.length x.fst) : Int)) = true →
                          ((0 : Int) ≤ y.fst ∧ y.fst < (↑(List.length x.fst) : Int)) ∧
                            (decide ((↑(List.length x.snd.fst) : Int) ≤ y.fst) = true → (1 : Int) = CmpD x.fst x.snd.fst) ∧
                              (decide ((↑(List.length x.snd.fst) : Int) ≤ y.fst) = false →
                                ((0 : Int) ≤ y.fst ∧ y.fst < (↑(List.length x.snd.fst) : Int)) ∧
                                  True ∧
                                    ∀ (y_1 : Int × Unit),
                                      Kd.wf (Kd.int IntKind.i64) y_1.fst ∧ True →
                                        y_1.fst = cmpI (List.getD x.fst (Int.toNat y.fst) (Kd.dft (Kd.int IntKind.i64))) (List.getD x.snd.fst (Int.toNat y.fst) (Kd.dft (Kd.int IntKind.i64))) →
                                          (decide (y_1.fst ≠ (0 : Int)) = true → y_1.fst = CmpD x.fst x.snd.fst) ∧
                                            (decide (y_1.fst ≠ (0 : Int)) = false →
                                              (↑(List.length x.fst) : Int) = (↑(List.length x.fst) : Int) ∧
                                                x.fst = x.fst ∧
                                                  x.fst = x.fst ∧
                                                    x.snd.fst = x.snd.fst ∧
                                                      I (IntKind.wrap IntKind.i64 (y.fst + (1 : Int)), y.snd.fst, ()) () ∧ μ (IntKind.wrap IntKind.i64 (y.fst + (1 : Int)), y.snd.fst, ()) () < μ y z))) ∧
                        (decide (y.fst < (↑(List.length x.fst) : Int)) = false →
                          (decide ((↑(List.length x.fst) : Int) < (↑(List.length x.snd.fst) : Int)) = true → (-1 : Int) = CmpD x.fst x.snd.fst) ∧
                            (decide ((↑(List.length x.fst) : Int) < (↑(List.length x.snd.fst) : Int)) = false → (0 : Int) = CmpD x.fst x.snd.fst))
theorem e27 : t27 = Con.vc c27 (mkEnv ty [(30, conSem c30)] [0, 1, 4, 5, 6, 7, 8, 9, 10, 11, 12, 19, 28, 35]) {} Try.f27.ntmps Try.f27.results.toList (bodyOf Try.f27) := by kernel_rfl
theorem k27 : t27 := by
  unfold t27
  rintro ⟨a, b, _⟩ hx hp
  have hl : a.length ≤ 9223372036854775807 := hx.1.1
  simp only [true_and, and_true, eq_self_iff_true, implies_true, reduceCtorEq, false_implies, true_implies, decide_eq_true_eq, decide_eq_false_iff_not, beq_self_eq_true, Bool.not_eq_true', ne_eq, Decidable.not_not, List.nil_append, List.length_singleton, List.length_cons, List.length_nil, Nat.zero_add, Nat.add_zero, Nat.mul_one, and_self, beq_iff_eq, Bool.not_true, Bool.not_false, Bool.not_eq_false', Bool.cond_false_right, Bool.and_eq_true, imp_self, Bool.not_eq_true, Bool.cond_true_left, Bool.or_eq_true]
  refine ⟨fun y _ => 0 ≤ y.1 ∧ y.1 ≤ a.length ∧ y.1 ≤ b.length ∧ CmpD (a.drop y.1.toNat) (b.drop y.1.toNat) = CmpD a b, fun y _ => (a.length - y.1).toNat, ⟨by omega, by omega, by omega, rfl⟩, ?_⟩
  rintro ⟨i, _, _⟩ _ hw ⟨h1, h2, h3, h4⟩
  simp only at h1 h2 h3 h4 hw ⊢
  refine ⟨fun hc => ⟨by omega, fun h => ?_, fun h => ⟨by omega, ?_⟩⟩, fun hc => ⟨fun h => ?_, fun h => ?_⟩⟩
  · rw [← h4, cmp_gt _ _ _ (by omega) (by omega)]
  · rintro ⟨c, _⟩ hwc ec
    simp only at ec ⊢
    have hd : Kd.dft (Kd.int .i64) = (0 : Int) := rfl
    rw [hd] at ec
    have hs := cmp_step a b i.toNat (by omega) (by omega)
    rw [h4, ← ec] at hs
    refine ⟨fun hne => ?_, fun h0 => ?_⟩
    · rw [hs, if_neg hne]
    · rw [wrap1 h1 hc hl]
      rw [if_pos h0] at hs
      exact ⟨⟨by omega, by omega, by omega, by rw [show (i + 1).toNat = i.toNat + 1 by omega]; exact hs.symm⟩, by omega⟩
  · rw [← h4, cmp_lt _ _ _ (by omega) (by omega)]
  · rw [← h4, cmp_eq _ _ _ (by omega) (by omega)]
theorem h27 : c27.ok Try.prog 27 := con_ok (E := mkEnv ty [(30, conSem c30)] [0, 1, 4, 5, 6, 7, 8, 9, 10, 11, 12, 19, 28, 35]) (H := {}) (mkEnv_ok _ tyOk (by kernel_rfl) ⟨h30.call, trivial⟩) (by kernel_rfl) (by kernel_rfl) (Eq.mp e27 k27)

def t14 : Prop :=
  ∀ (x : List Int × List Int × Unit),
    Kd.wf (Kd.sl (Kd.int IntKind.i64)) x.fst ∧ Kd.wf (Kd.sl (Kd.int IntKind.i64)) x.snd.fst ∧ True →
      True → True ∧ ∀ (y : Int × Unit), Kd.wf (Kd.int IntKind.i64) y.fst ∧ True → y.fst = CmpD x.fst x.snd.fst → y.fst = CmpD x.fst x.snd.fst
theorem e14 : t14 = Con.vc c14 (mkEnv ty [(27, conSem c27)] [0, 1, 4]) {} Try.f14.ntmps Try.f14.results.toList (bodyOf Try.f14) := by kernel_rfl
theorem k14 : t14 := by
  unfold t14
  intro x hx hp
  simp only [true_and, and_true, eq_self_iff_true, implies_true, reduceCtorEq, false_implies, true_implies, decide_eq_true_eq, decide_eq_false_iff_not, beq_self_eq_true, Bool.not_eq_true', ne_eq, Decidable.not_not, List.nil_append, List.length_singleton, List.length_cons, List.length_nil, Nat.zero_add, Nat.add_zero, Nat.mul_one, and_self, beq_iff_eq, Bool.not_true, Bool.not_false, Bool.not_eq_false', Bool.cond_false_right, Bool.and_eq_true, imp_self, Bool.not_eq_true, Bool.cond_true_left, Bool.or_eq_true]
theorem h14 : c14.ok Try.prog 14 := con_ok (E := mkEnv ty [(27, conSem c27)] [0, 1, 4]) (H := {}) (mkEnv_ok _ tyOk (by kernel_rfl) ⟨h27.call, trivial⟩) (by kernel_rfl) (by kernel_rfl) (Eq.mp e14 k14)

def t15 : Prop :=
  ∀ (x : List Int × List Int × Unit),
    Kd.wf (Kd.sl (Kd.int IntKind.i64)) x.fst ∧ Kd.wf (Kd.sl (Kd.int IntKind.i64)) x.snd.fst ∧ True →
      True →
        ∃ (I : Int × Int × Unit → Unit → Prop),
          ∃ (μ : Int × Int × Unit → Unit → Nat),
            (x.fst = x.fst ∧ x.snd.fst = x.snd.fst ∧ I ((0 : Int), (0 : Int), ()) ()) ∧
              ∀ (y : Int × Int × Unit) (z : Unit),
                Kd.wf (Kd.int IntKind.i64) y.fst ∧ Kd.wf (Kd.int IntKind.i64) y.snd.fst ∧ True →
                  True →
                    I y z →
                      (decide (y.fst < (↑(List.length x.fst) : Int)) = true → True) ∧
                        (decide (y.fst < (↑(List.length x.fst) : Int)) = true → True) ∧
                          (decide (y.fst < (↑(List.length x.fst) : Int)) = true → (decide (y.fst < (↑(List.length x.fst) : Int)) == true) = true ∧ True) ∧
                            (decide (y.fst < (↑(List.length x.fst) : Int)) = true →
                                (decide (y.fst < (↑(List.length x.fst) : Int)) == true) = true ∧ (decide (y.fst < (↑(List.length x.fst) : Int)) == true) = true ∧ True) ∧
                              (decide (y.fst < (↑(List.length x.fst) : Int)) = true → (decide (y.fst < (↑(List.length x.fst) : Int)) == true) = true) ∧
                                ((bif decide (y.fst < (↑(List.length x.fst) : Int)) then decide (y.fst < (↑(List.length x.snd.fst) : Int)) else false) = true →
                                    ((0 : Int) ≤ y.fst ∧ y.fst < (↑(List.length x.fst) : Int)) ∧
                                      ((0 : Int) ≤ y.fst ∧ y.fst < (↑(List.length x.snd.fst) : Int)) ∧
                                        (decide (List.getD x.fst (Int.toNat y.fst) (Kd.dft (Kd.int IntKind.i64)) < List.getD x.snd.fst (Int.toNat y.fst) (Kd.dft (Kd.int IntKind.i64))) = true →
                                            (-1 : Int) = CmpD x.fst x.snd.fst) ∧
                                          (decide (List.getD x.fst (Int.toNat y.fst) (Kd.dft (Kd.int IntKind.i64)) < List.getD x.snd.fst (Int.toNat y.fst) (Kd.dft (Kd.int IntKind.i64))) = false →
                                            ((0 : Int) ≤ y.fst ∧ y.fst < (↑(List.length x.fst) : Int)) ∧
                                              ((0 : Int) ≤ y.fst ∧ y.fst < (↑(List.length x.snd.fst) : Int)) ∧
                                                (decide (List.getD x.snd.fst (Int.toNat y.fst) (Kd.dft (Kd.int IntKind.i64)) < List.getD x.fst (Int.toNat y.fst) (Kd.dft (Kd.int IntKind.i64))) = true →
                                                    (1 : Int) = CmpD x.fst x.snd.fst) ∧
                                                  (decide (List.getD x.snd.fst (Int.toNat y.fst) (Kd.dft (Kd.int IntKind.i64)) < List.getD x.fst (Int.toNat y.fst) (Kd.dft (Kd.int IntKind.i64))) =
                                                      false →
                                                    x.fst = x.fst ∧
                                                      x.snd.fst = x.snd.fst ∧
                                                        I (IntKind.wrap IntKind.i64 (y.fst + (1 : Int)), y.snd.fst, ()) () ∧
                                                          μ (IntKind.wrap IntKind.i64 (y.fst + (1 : Int)), y.snd.fst, ()) () < μ y z))) ∧
                                  ((bif decide (y.fst < (↑(List.length x.fst) : Int)) then decide (y.fst < (↑(List.length x.snd.fst) : Int)) else false) = false →
                                    (decide ((↑(List.length x.fst) : Int) < (↑(List.length x.snd.fst) : Int)) = true → (-1 : Int) = CmpD x.fst x.snd.fst) ∧
                                      (decide ((↑(List.length x.fst) : Int) < (↑(List.length x.snd.fst) : Int)) = false →
                                        (decide ((↑(List.length x.snd.fst) : Int) < (↑(List.length x.fst) : Int)) = true → (1 : Int) = CmpD x.fst x.snd.fst) ∧
                                          (decide ((↑(List.length x.snd.fst) : Int) < (↑(List.length x.fst) : Int)) = false → (0 : Int) = CmpD x.fst x.snd.fst)))
theorem e15 : t15 = Con.vc c15 (mkEnv ty [] [0, 1, 4, 5, 15, 26, 35, 40, 45]) {} Try.f15.ntmps Try.f15.results.toList (bodyOf Try.f15) := by kernel_rfl
theorem k15 : t15 := by
  unfold t15
  rintro ⟨a, b, _⟩ hx hp
  have hl : a.length ≤ 9223372036854775807 := hx.1.1
  simp only [true_and, and_true, eq_self_iff_true, implies_true, reduceCtorEq, false_implies, true_implies, decide_eq_true_eq, decide_eq_false_iff_not, beq_self_eq_true, Bool.not_eq_true', ne_eq, Decidable.not_not, List.nil_append, List.length_singleton, List.length_cons, List.length_nil, Nat.zero_add, Nat.add_zero, Nat.mul_one, and_self, beq_iff_eq, Bool.not_true, Bool.not_false, Bool.not_eq_false', Bool.cond_false_right, Bool.and_eq_true, imp_self, Bool.not_eq_true, Bool.cond_true_left, Bool.or_eq_true]
  refine ⟨fun y _ => 0 ≤ y.1 ∧ y.1 ≤ a.length ∧ y.1 ≤ b.length ∧ CmpD (a.drop y.1.toNat) (b.drop y.1.toNat) = CmpD a b, fun y _ => (a.length - y.1).toNat, ⟨by omega, by omega, by omega, rfl⟩, ?_⟩
  rintro ⟨i, _, _⟩ _ hw ⟨h1, h2, h3, h4⟩
  simp only at h1 h2 h3 h4 hw ⊢
  have hd : Kd.dft (Kd.int .i64) = (0 : Int) := rfl
  rw [hd]
  refine ⟨fun hc => ⟨by omega, by omega, fun h => ?_, fun h => ⟨by omega, by omega, fun h5 => ?_, fun h5 => ?_⟩⟩, fun hc => ⟨fun h => ?_, fun h => ⟨fun h5 => ?_, fun h5 => ?_⟩⟩⟩
  · have hs := cmp_step a b i.toNat (by omega) (by omega)
    have hc : cmpI (a.getD i.toNat 0) (b.getD i.toNat 0) = -1 := by rw [cmpI, if_pos h]
    rw [← h4, hs, hc]; rfl
  · have hs := cmp_step a b i.toNat (by omega) (by omega)
    have hc : cmpI (a.getD i.toNat 0) (b.getD i.toNat 0) = 1 := by rw [cmpI, if_neg h, if_pos h5]
    rw [← h4, hs, hc]; rfl
  · have hs := cmp_step a b i.toNat (by omega) (by omega)
    have hc2 : cmpI (a.getD i.toNat 0) (b.getD i.toNat 0) = 0 := by rw [cmpI, if_neg h, if_neg h5]
    rw [hc2, if_pos rfl, h4] at hs
    rw [wrap1 h1 hc.1 hl]
    exact ⟨⟨by omega, by omega, by omega, by rw [show (i + 1).toNat = i.toNat + 1 by omega]; exact hs.symm⟩, by omega⟩
  · have hc : ¬ (i < a.length ∧ i < b.length) := by simpa using hc
    rw [← h4, cmp_lt _ _ _ (by omega) (by omega)]
  · have hc : ¬ (i < a.length ∧ i < b.length) := by simpa using hc
    rw [← h4, cmp_gt _ _ _ (by omega) (by omega)]
  · have hc : ¬ (i < a.length ∧ i < b.length) := by simpa using hc
    rw [← h4, cmp_eq _ _ _ (by omega) (by omega)]
theorem h15 : c15.ok Try.prog 15 := con_ok (E := mkEnv ty [] [0, 1, 4, 5, 15, 26, 35, 40, 45]) (H := {}) (mkEnv_ok _ tyOk (by kernel_rfl) trivial) (by kernel_rfl) (by kernel_rfl) (Eq.mp e15 k15)

def t28 : Prop :=
  ∀ (x : List Int × List Int × Unit),
    Kd.wf (Kd.sl (Kd.int IntKind.i64)) x.fst ∧ Kd.wf (Kd.sl (Kd.int IntKind.i64)) x.snd.fst ∧ True →
      True →
        (decide ((↑(List.length x.fst) : Int) ≠ (↑(List.length x.snd.fst) : Int)) = true → false = decide (x.fst = x.snd.fst)) ∧
          (decide ((↑(List.length x.fst) : Int) ≠ (↑(List.length x.snd.fst) : Int)) = false →
            ∃ (I : Int × Bool × Unit → Unit → Prop),
              ∃ (μ : Int × Bool × Unit → Unit → Nat),
                ((↑(List.length x.fst) : Int) = (↑(List.length x.fst) : Int) ∧
                    decide ((↑(List.length x.fst) : Int) ≠ (↑(List.length x.snd.fst) : Int)) = decide ((↑(List.length x.fst) : Int) ≠ (↑(List.length x.snd.fst) : Int)) ∧
                      x.fst = x.fst ∧ x.snd.fst = x.snd.fst ∧ I ((0 : Int), false, ()) ()) ∧
                  ∀ (y : Int × Bool × Unit) (z : Unit),
                    Kd.wf (Kd.int IntKind.i64) y.fst ∧ Kd.wf Kd.bool y.snd.fst ∧ True →
                      True →
                        I y z →
                          (decide (y.fst < (↑(List.length x.fst) : Int)) = true →
                              ((0 : Int) ≤ y.fst ∧ y.fst < (↑(List.length x.fst) : Int)) ∧
                                ((0 : Int) ≤ y.fst ∧ y.fst < (↑(List.length x.snd.fst) : Int)) ∧
                                  (decide (List.getD x.fst (Int.toNat y.fst) (Kd.dft (Kd.int IntKind.i64)) ≠ List.getD x.snd.fst (Int.toNat y.fst) (Kd.dft (Kd.int IntKind.i64))) = true →
                                      false = decide (x.fst = x.snd.fst)) ∧
                                    (decide (List.getD x.fst (Int.toNat y.fst) (Kd.dft (Kd.int IntKind.i64)) ≠ List.getD x.snd.fst (Int.toNat y.fst) (Kd.dft (Kd.int IntKind.i64))) = false →
                                      (↑(List.length x.fst) : Int) = (↑(List.length x.fst) : Int) ∧
                                        decide ((↑(List.length x.fst) : Int) ≠ (↑(List.length x.snd.fst) : Int)) = decide ((↑(List.length x.fst) : Int) ≠ (↑(List.length x.snd.fst) : Int)) ∧
                                          x.fst = x.fst ∧
                                            x.snd.fst = x.snd.fst ∧
                                              I (IntKind.wrap IntKind.i64 (y.fst + (1 : Int)), y.snd.fst, ()) () ∧ μ (IntKind.wrap IntKind.i64 (y.fst + (1 : Int)), y.snd.fst, ()) () < μ y z)) ∧
                            (decide (y.fst < (↑(List.length x.fst) : Int)) = false → true = decide (x.fst = x.snd.fst)))
theorem e28 : t28 = Con.vc c28 (mkEnv ty [] [0, 1, 4, 5, 10, 12, 13, 14, 24]) {} Try.f28.ntmps Try.f28.results.toList (bodyOf Try.f28) := by kernel_rfl
theorem k28 : t28 := by
  unfold t28
  rintro ⟨a, b, _⟩ hx hp
  have hl : a.length ≤ 9223372036854775807 := hx.1.1
  simp only [true_and, and_true, eq_self_iff_true, implies_true, reduceCtorEq, false_implies, true_implies, decide_eq_true_eq, decide_eq_false_iff_not, beq_self_eq_true, Bool.not_eq_true', ne_eq, Decidable.not_not, List.nil_append, List.length_singleton, List.length_cons, List.length_nil, Nat.zero_add, Nat.add_zero, Nat.mul_one, and_self, beq_iff_eq, Bool.not_true, Bool.not_false, Bool.not_eq_false', Bool.cond_false_right, Bool.and_eq_true, imp_self, Bool.not_eq_true, Bool.cond_true_left, Bool.or_eq_true]
  refine ⟨fun h => ?_, fun h => ⟨fun y _ => 0 ≤ y.1 ∧ y.1 ≤ a.length ∧ a.take y.1.toNat = b.take y.1.toNat, fun y _ => (a.length - y.1).toNat, ⟨by omega, by omega, rfl⟩, ?_⟩⟩
  · rw [eq_comm, decide_eq_false_iff_not]
    intro e
    exact h (by rw [e])
  · rintro ⟨i, _, _⟩ _ hw ⟨h1, h2, h3⟩
    simp only at h1 h2 h3 hw ⊢
    have hd : Kd.dft (Kd.int .i64) = (0 : Int) := rfl
    rw [hd]
    refine ⟨fun hc => ⟨by omega, by omega, fun hne => ?_, fun he => ?_⟩, fun hc => ?_⟩
    · rw [eq_comm, decide_eq_false_iff_not]
      intro e
      exact hne (by rw [e])
    · rw [wrap1 h1 hc hl]
      exact ⟨⟨by omega, by omega, by rw [show (i + 1).toNat = i.toNat + 1 by omega]; exact take_eq_step (by omega) h3 (by omega) he⟩, by omega⟩
    · rw [eq_comm, decide_eq_true_eq]
      rwa [List.take_of_length_le (by omega), List.take_of_length_le (by omega)] at h3
theorem h28 : c28.ok Try.prog 28 := con_ok (E := mkEnv ty [] [0, 1, 4, 5, 10, 12, 13, 14, 24]) (H := {}) (mkEnv_ok _ tyOk (by kernel_rfl) trivial) (by kernel_rfl) (by kernel_rfl) (Eq.mp e28 k28)

def t16 : Prop :=
  ∀ (x : List Int × List Int × Unit),
    Kd.wf (Kd.sl (Kd.int IntKind.i64)) x.fst ∧ Kd.wf (Kd.sl (Kd.int IntKind.i64)) x.snd.fst ∧ True →
      True →
        (decide ((↑(List.length x.snd.fst) : Int) ≤ (↑(List.length x.fst) : Int)) = true → True) ∧
          (decide ((↑(List.length x.snd.fst) : Int) ≤ (↑(List.length x.fst) : Int)) = true → True) ∧
            (decide ((↑(List.length x.snd.fst) : Int) ≤ (↑(List.length x.fst) : Int)) = true → (decide ((↑(List.length x.snd.fst) : Int) ≤ (↑(List.length x.fst) : Int)) == true) = true ∧ True) ∧
              (decide ((↑(List.length x.snd.fst) : Int) ≤ (↑(List.length x.fst) : Int)) = true →
                  (decide ((↑(List.length x.snd.fst) : Int) ≤ (↑(List.length x.fst) : Int)) == true) = true ∧
                    (decide ((↑(List.length x.snd.fst) : Int) ≤ (↑(List.length x.fst) : Int)) == true) = true ∧
                      ((0 : Int) ≤ (↑(List.length x.snd.fst) : Int) ∧ (↑(List.length x.snd.fst) : Int) ≤ (↑(List.length x.fst) : Int)) ∧ True) ∧
                (decide ((↑(List.length x.snd.fst) : Int) ≤ (↑(List.length x.fst) : Int)) = true → True) ∧
                  (decide ((↑(List.length x.snd.fst) : Int) ≤ (↑(List.length x.fst) : Int)) = true →
                      (decide ((↑(List.length x.snd.fst) : Int) ≤ (↑(List.length x.fst) : Int)) == true) = true ∧
                        (decide ((↑(List.length x.snd.fst) : Int) ≤ (↑(List.length x.fst) : Int)) == true) = true ∧
                          True ∧
                            ∀ (y : Bool × Unit), Kd.wf Kd.bool y.fst ∧ True → y.fst = decide (List.take (Int.toNat (↑(List.length x.snd.fst) : Int)) x.fst = x.snd.fst) → y.fst = BegD x.fst x.snd.fst) ∧
                    (decide ((↑(List.length x.snd.fst) : Int) ≤ (↑(List.length x.fst) : Int)) = !true → false = BegD x.fst x.snd.fst)
theorem e16 : t16 = Con.vc c16 (mkEnv ty [(28, conSem c28)] [0, 1, 4]) {} Try.f16.ntmps Try.f16.results.toList (bodyOf Try.f16) := by kernel_rfl
theorem k16 : t16 := by
  unfold t16
  rintro ⟨a, b, _⟩ hx hp
  simp only [true_and, and_true, eq_self_iff_true, implies_true, reduceCtorEq, false_implies, true_implies, decide_eq_true_eq, decide_eq_false_iff_not, beq_self_eq_true, Bool.not_eq_true', ne_eq, Decidable.not_not, List.nil_append, List.length_singleton, List.length_cons, List.length_nil, Nat.zero_add, Nat.add_zero, Nat.mul_one, and_self, beq_iff_eq, Bool.not_true, Bool.not_false, Bool.not_eq_false', Bool.cond_false_right, Bool.and_eq_true, imp_self, Bool.not_eq_true, Bool.cond_true_left, Bool.or_eq_true, Int.toNat_natCast]
  refine ⟨fun h => ⟨h, h, by omega, h⟩, fun h => ⟨h, h, fun y _ e => ?_⟩, fun h => ?_⟩
  · have : b.length ≤ a.length := by omega
    simp [BegD, this, e]
  · have : ¬ b.length ≤ a.length := by omega
    simp [BegD, this]
theorem h16 : c16.ok Try.prog 16 := con_ok (E := mkEnv ty [(28, conSem c28)] [0, 1, 4]) (H := {}) (mkEnv_ok _ tyOk (by kernel_rfl) ⟨h28.call, trivial⟩) (by kernel_rfl) (by kernel_rfl) (Eq.mp e16 k16)

def t17 : Prop :=
  ∀ (x : List Int × List Int × Unit),
    Kd.wf (Kd.sl (Kd.int IntKind.i64)) x.fst ∧ Kd.wf (Kd.sl (Kd.int IntKind.i64)) x.snd.fst ∧ True →
      True →
        (decide ((↑(List.length x.fst) : Int) < (↑(List.length x.snd.fst) : Int)) = true → false = BegD x.fst x.snd.fst) ∧
          (decide ((↑(List.length x.fst) : Int) < (↑(List.length x.snd.fst) : Int)) = false →
            ((0 : Int) ≤ (↑(List.length x.snd.fst) : Int) ∧ (↑(List.length x.snd.fst) : Int) ≤ (↑(List.length x.fst) : Int)) ∧
              True ∧
                ∀ (y : Int × Unit),
                  Kd.wf (Kd.int IntKind.i64) y.fst ∧ True → y.fst = CmpD (List.take (Int.toNat (↑(List.length x.snd.fst) : Int)) x.fst) x.snd.fst → decide (y.fst = (0 : Int)) = BegD x.fst x.snd.fst)
theorem e17 : t17 = Con.vc c17 (mkEnv ty [(15, conSem c15)] [0, 1, 4, 9]) {} Try.f17.ntmps Try.f17.results.toList (bodyOf Try.f17) := by kernel_rfl
theorem k17 : t17 := by
  unfold t17
  rintro ⟨a, b, _⟩ hx hp
  simp only [true_and, and_true, eq_self_iff_true, implies_true, reduceCtorEq, false_implies, true_implies, decide_eq_true_eq, decide_eq_false_iff_not, beq_self_eq_true, Bool.not_eq_true', ne_eq, Decidable.not_not, List.nil_append, List.length_singleton, List.length_cons, List.length_nil, Nat.zero_add, Nat.add_zero, Nat.mul_one, and_self, beq_iff_eq, Bool.not_true, Bool.not_false, Bool.not_eq_false', Bool.cond_false_right, Bool.and_eq_true, imp_self, Bool.not_eq_true, Bool.cond_true_left, Bool.or_eq_true, Int.toNat_natCast]
  refine ⟨fun h => ?_, fun h => ⟨by omega, fun y _ e => ?_⟩⟩
  · have : ¬ b.length ≤ a.length := by omega
    simp [BegD, this]
  · have : b.length ≤ a.length := by omega
    simp [BegD, this, e, cmp_zero]
theorem h17 : c17.ok Try.prog 17 := con_ok (E := mkEnv ty [(15, conSem c15)] [0, 1, 4, 9]) (H := {}) (mkEnv_ok _ tyOk (by kernel_rfl) ⟨h15.call, trivial⟩) (by kernel_rfl) (by kernel_rfl) (Eq.mp e17 k17)

def t12 : Prop :=
  ∀ (x : List Int × Unit),
    Kd.wf (Kd.sl (Kd.int IntKind.i64)) x.fst ∧ True →
      x.fst = [(1 : Int), (2 : Int)] →
        (decide ((↑(List.length x.fst) : Int) < (2 : Int)) = false → True) ∧
          (decide ((↑(List.length x.fst) : Int) < (2 : Int)) = false → (decide ((↑(List.length x.fst) : Int) < (2 : Int)) == false) = true ∧ True) ∧
            (decide ((↑(List.length x.fst) : Int) < (2 : Int)) = false → (decide ((↑(List.length x.fst) : Int) < (2 : Int)) == false) = true ∧ True) ∧
              (decide ((↑(List.length x.fst) : Int) < (2 : Int)) = false → (decide ((↑(List.length x.fst) : Int) < (2 : Int)) == false) = true) ∧
                ((bif decide ((↑(List.length x.fst) : Int) < (2 : Int)) then true else decide ((20 : Int) < (↑(List.length x.fst) : Int))) = true → false = true) ∧
                  ((bif decide ((↑(List.length x.fst) : Int) < (2 : Int)) then true else decide ((20 : Int) < (↑(List.length x.fst) : Int))) = false →
                    ∃ (I : Int × Bool × Unit → Unit → Prop),
                      ∃ (μ : Int × Bool × Unit → Unit → Nat),
                        ((↑(List.length x.fst) : Int) = (↑(List.length x.fst) : Int) ∧
                            x.fst = x.fst ∧
                              ((bif decide ((↑(List.length x.fst) : Int) < (2 : Int)) then true else decide ((20 : Int) < (↑(List.length x.fst) : Int))) =
                                  bif decide ((↑(List.length x.fst) : Int) < (2 : Int)) then true else decide ((20 : Int) < (↑(List.length x.fst) : Int))) ∧
                                x.fst = x.fst ∧ I ((0 : Int), false, ()) ()) ∧
                          ∀ (y : Int × Bool × Unit) (z : Unit),
                            Kd.wf (Kd.int IntKind.i64) y.fst ∧ Kd.wf Kd.bool y.snd.fst ∧ True →
                              True →
                                I y z →
                                  (decide (y.fst < (↑(List.length x.fst) : Int)) = true →
                                      ((0 : Int) ≤ y.fst ∧ y.fst < (↑(List.length x.fst) : Int)) ∧
                                        (decide (List.getD x.fst (Int.toNat y.fst) (Kd.dft (Kd.int IntKind.i64)) < (0 : Int)) = false → True) ∧
                                          (decide (List.getD x.fst (Int.toNat y.fst) (Kd.dft (Kd.int IntKind.i64)) < (0 : Int)) = false →
                                              (decide (List.getD x.fst (Int.toNat y.fst) (Kd.dft (Kd.int IntKind.i64)) < (0 : Int)) == false) = true ∧ True) ∧
                                            (decide (List.getD x.fst (Int.toNat y.fst) (Kd.dft (Kd.int IntKind.i64)) < (0 : Int)) = false →
                                                (decide (List.getD x.fst (Int.toNat y.fst) (Kd.dft (Kd.int IntKind.i64)) < (0 : Int)) == false) = true) ∧
                                              ((bif decide (List.getD x.fst (Int.toNat y.fst) (Kd.dft (Kd.int IntKind.i64)) < (0 : Int)) then true
                                                    else decide ((2147483647 : Int) < List.getD x.fst (Int.toNat y.fst) (Kd.dft (Kd.int IntKind.i64)))) =
                                                    true →
                                                  false = true) ∧
                                                ((bif decide (List.getD x.fst (Int.toNat y.fst) (Kd.dft (Kd.int IntKind.i64)) < (0 : Int)) then true
                                                    else decide ((2147483647 : Int) < List.getD x.fst (Int.toNat y.fst) (Kd.dft (Kd.int IntKind.i64)))) =
                                                    false →
                                                  (↑(List.length x.fst) : Int) = (↑(List.length x.fst) : Int) ∧
                                                    x.fst = x.fst ∧
                                                      ((bif decide ((↑(List.length x.fst) : Int) < (2 : Int)) then true else decide ((20 : Int) < (↑(List.length x.fst) : Int))) =
                                                          bif decide ((↑(List.length x.fst) : Int) < (2 : Int)) then true else decide ((20 : Int) < (↑(List.length x.fst) : Int))) ∧
                                                        x.fst = x.fst ∧
                                                          I (IntKind.wrap IntKind.i64 (y.fst + (1 : Int)), y.snd.fst, ()) () ∧
                                                            μ (IntKind.wrap IntKind.i64 (y.fst + (1 : Int)), y.snd.fst, ()) () < μ y z)) ∧
                                    (decide (y.fst < (↑(List.length x.fst) : Int)) = false →
                                      ((0 : Int) ≤ (0 : Int) ∧ (0 : Int) < (↑(List.length x.fst) : Int)) ∧
                                        (decide (List.getD x.fst (0 : Nat) (Kd.dft (Kd.int IntKind.i64)) = (0 : Int)) = true →
                                            (decide (List.getD x.fst (0 : Nat) (Kd.dft (Kd.int IntKind.i64)) = (0 : Int)) = true →
                                                ((0 : Int) ≤ (1 : Int) ∧ (1 : Int) < (↑(List.length x.fst) : Int)) ∧
                                                  decide (List.getD x.fst (1 : Nat) (Kd.dft (Kd.int IntKind.i64)) < (40 : Int)) = true) ∧
                                              (decide (List.getD x.fst (0 : Nat) (Kd.dft (Kd.int IntKind.i64)) = (0 : Int)) = false →
                                                (decide (List.getD x.fst (0 : Nat) (Kd.dft (Kd.int IntKind.i64)) = (2 : Int)) = true →
                                                    ((0 : Int) ≤ (1 : Int) ∧ (1 : Int) < (↑(List.length x.fst) : Int)) ∧
                                                      decide (List.getD x.fst (1 : Nat) (Kd.dft (Kd.int IntKind.i64)) ≤ (2147483567 : Int)) = true) ∧
                                                  (decide (List.getD x.fst (0 : Nat) (Kd.dft (Kd.int IntKind.i64)) = (2 : Int)) = false → false = true))) ∧
                                          (decide (List.getD x.fst (0 : Nat) (Kd.dft (Kd.int IntKind.i64)) = (0 : Int)) = false →
                                            (decide (List.getD x.fst (0 : Nat) (Kd.dft (Kd.int IntKind.i64)) = (1 : Int)) = true →
                                                ((0 : Int) ≤ (1 : Int) ∧ (1 : Int) < (↑(List.length x.fst) : Int)) ∧
                                                  decide (List.getD x.fst (1 : Nat) (Kd.dft (Kd.int IntKind.i64)) < (40 : Int)) = true) ∧
                                              (decide (List.getD x.fst (0 : Nat) (Kd.dft (Kd.int IntKind.i64)) = (1 : Int)) = false →
                                                (decide (List.getD x.fst (0 : Nat) (Kd.dft (Kd.int IntKind.i64)) = (2 : Int)) = true →
                                                    ((0 : Int) ≤ (1 : Int) ∧ (1 : Int) < (↑(List.length x.fst) : Int)) ∧
                                                      decide (List.getD x.fst (1 : Nat) (Kd.dft (Kd.int IntKind.i64)) ≤ (2147483567 : Int)) = true) ∧
                                                  (decide (List.getD x.fst (0 : Nat) (Kd.dft (Kd.int IntKind.i64)) = (2 : Int)) = false → false = true)))))
theorem e12 : t12 = Con.vc c12 (mkEnv ty [] [0, 2, 4, 12, 13, 14, 15, 16, 24, 28, 29, 36]) {} Try.f12.ntmps Try.f12.results.toList (bodyOf Try.f12) := by kernel_rfl
theorem k12 : t12 := by
  unfold t12
  rintro ⟨l, _⟩ hx hp
  have hl : l = [1, 2] := hp
  have hlen : l.length = 2 := by rw [hl]; rfl
  have g0 : l.getD 0 (Kd.dft (Kd.int .i64)) = 1 := by rw [hl]; rfl
  have g1 : l.getD 1 (Kd.dft (Kd.int .i64)) = 2 := by rw [hl]; rfl
  clear hx hp hl
  simp only [true_and, and_true, eq_self_iff_true, implies_true, reduceCtorEq, false_implies, true_implies, decide_eq_true_eq, decide_eq_false_iff_not, beq_self_eq_true, Bool.not_eq_true', ne_eq, Decidable.not_not, List.nil_append, List.length_singleton, List.length_cons, List.length_nil, Nat.zero_add, Nat.add_zero, Nat.mul_one, and_self, beq_iff_eq, Bool.not_true, Bool.not_false, Bool.not_eq_false', Bool.cond_false_right, Bool.and_eq_true, imp_self, Bool.not_eq_true, Bool.cond_true_left, Bool.or_eq_true]
  refine ⟨fun h => by omega, fun _ => ⟨fun y _ => 0 ≤ y.1, fun y _ => (2 - y.1).toNat, by omega, ?_⟩⟩
  rintro ⟨i, _, _⟩ _ hw h1
  simp only at h1 hw ⊢
  refine ⟨fun hc => ?_, fun hc => ⟨by omega, fun h => by omega, fun h => ⟨fun h1 => ⟨by omega, by omega⟩, fun h1 => by omega⟩⟩⟩
  have hi : l.getD i.toNat (Kd.dft (Kd.int .i64)) = 1 ∨ l.getD i.toNat (Kd.dft (Kd.int .i64)) = 2 := by
    have : i.toNat = 0 ∨ i.toNat = 1 := by omega
    rcases this with h | h
    · rw [h]; exact .inl g0
    · rw [h]; exact .inr g1
  rw [wrap1 h1 (n := 2) (by omega) (by decide)]
  exact ⟨by omega, fun h => by omega, fun _ => ⟨by omega, by omega⟩⟩
theorem h12 : c12.ok Try.prog 12 := con_ok (E := mkEnv ty [] [0, 2, 4, 12, 13, 14, 15, 16, 24, 28, 29, 36]) (H := {}) (mkEnv_ok _ tyOk (by kernel_rfl) trivial) (by kernel_rfl) (by kernel_rfl) (Eq.mp e12 k12)

def t23 : Prop :=
  ∀ (x : List Int × List Int × Unit),
    Kd.wf (Kd.sl (Kd.int IntKind.i64)) x.fst ∧ Kd.wf (Kd.sl (Kd.int IntKind.i64)) x.snd.fst ∧ True →
      True → True ∧ ∀ (y : Int × Unit), Kd.wf (Kd.int IntKind.i64) y.fst ∧ True → y.fst = CmpD x.fst x.snd.fst → x.fst = x.snd.fst → decide (y.fst = (0 : Int)) = true
theorem e23 : t23 = Con.vc c23 (mkEnv ty [(15, conSem c15)] [0, 1, 4]) {} Try.f23.ntmps Try.f23.results.toList (bodyOf Try.f23) := by kernel_rfl
theorem k23 : t23 := by
  unfold t23
  rintro ⟨a, b, _⟩ hx hp
  refine ⟨trivial, fun y _ e h => ?_⟩
  have : y.1 = 0 := by rw [e]; exact cmp_zero.2 h
  exact decide_eq_true this
theorem h23 : c23.ok Try.prog 23 := con_ok (E := mkEnv ty [(15, conSem c15)] [0, 1, 4]) (H := {}) (mkEnv_ok _ tyOk (by kernel_rfl) ⟨h15.call, trivial⟩) (by kernel_rfl) (by kernel_rfl) (Eq.mp e23 k23)

noncomputable def i13 : CallSem := vcFn (mkEnv ty [] [0, 2]) {} Try.f13.ntmps Try.f13.results.toList (bodyOf Try.f13)
theorem i13_ok : CallOk Try.prog 13 i13 := inl_ok (E := (mkEnv ty [] [0, 2])) {} (mkEnv_ok _ tyOk (by kernel_rfl) trivial) (by kernel_rfl) (by kernel_rfl)

noncomputable def i18 : CallSem := vcFn (mkEnv ty [(23, conSem c23)] [0, 1, 4]) {} Try.f18.ntmps Try.f18.results.toList (bodyOf Try.f18)
theorem i18_ok : CallOk Try.prog 18 i18 := inl_ok (E := (mkEnv ty [(23, conSem c23)] [0, 1, 4])) {} (mkEnv_ok _ tyOk (by kernel_rfl) ⟨h23.call, trivial⟩) (by kernel_rfl) (by kernel_rfl)

def t5 : Prop :=
  ∀ (x : List Int × List Int × Unit),
    Kd.wf (Kd.sl (Kd.int IntKind.i64)) x.fst ∧ Kd.wf (Kd.sl (Kd.int IntKind.i64)) x.snd.fst ∧ True →
      ABulk [AK.dat (Kd.sl (Kd.int IntKind.i64)), AK.dat (Kd.sl (Kd.int IntKind.i64))] x ≤ (1048576 : Nat) →
        (0 : Nat) < (1 : Nat) ∧
          ((0 : Nat) + List.length x.fst) * (8 : Nat) ≤ (140737488355328 : Nat) ∧
            (0 : Nat) + List.length x.fst ≤ (9223372036854775807 : Nat) ∧
              (0 : Nat) < (1 : Nat) ∧
                (List.length ([] ++ x.fst) + (1 : Nat)) * (8 : Nat) ≤ (140737488355328 : Nat) ∧
                  List.length ([] ++ x.fst) + (1 : Nat) ≤ (9223372036854775807 : Nat) ∧
                    ((0 : Int) ≤ (↑(List.length x.fst) : Int) ∧ (↑(List.length x.fst) : Int) ≤ (↑(List.length ([] ++ x.fst ++ [(-71 : Int)])) : Int)) ∧
                      (0 : Nat) < (1 : Nat) ∧
                        ((0 : Nat) + List.length x.snd.fst) * (8 : Nat) ≤ (140737488355328 : Nat) ∧
                          (0 : Nat) + List.length x.snd.fst ≤ (9223372036854775807 : Nat) ∧
                            (0 : Nat) < (1 : Nat) ∧
                              (List.length ([] ++ x.snd.fst) + (1 : Nat)) * (8 : Nat) ≤ (140737488355328 : Nat) ∧
                                List.length ([] ++ x.snd.fst) + (1 : Nat) ≤ (9223372036854775807 : Nat) ∧
                                  ((0 : Int) ≤ (↑(List.length x.snd.fst) : Int) ∧ (↑(List.length x.snd.fst) : Int) ≤ (↑(List.length ([] ++ x.snd.fst ++ [(-71 : Int)])) : Int)) ∧
                                    True ∧
                                      ∀ (y : Int × Unit),
                                        Kd.wf (Kd.int IntKind.i64) y.fst ∧ True →
                                          y.fst =
                                              CmpD (List.take (Int.toNat (↑(List.length x.fst) : Int) - (0 : Nat)) (List.drop (0 : Nat) ([] ++ x.fst ++ [(-71 : Int)])))
                                                (List.take (Int.toNat (↑(List.length x.snd.fst) : Int) - (0 : Nat)) (List.drop (0 : Nat) ([] ++ x.snd.fst ++ [(-71 : Int)]))) →
                                            True ∧
                                              ∀ (y_1 : Int × Unit),
                                                Kd.wf (Kd.int IntKind.i64) y_1.fst ∧ True →
                                                  y_1.fst = CmpD x.fst x.snd.fst →
                                                    (decide (y.fst = y_1.fst) = true → True) ∧
                                                      (decide (y.fst = y_1.fst) = true → True) ∧
                                                        (decide (y.fst = y_1.fst) = true →
                                                            (decide (y.fst = y_1.fst) == true) = true ∧
                                                              (decide (y.fst = y_1.fst) == true) = true ∧
                                                                True ∧
                                                                  ∀ (y : Bool × Unit),
                                                                    Kd.wf Kd.bool y.fst ∧ True →
                                                                      y.fst =
                                                                          BegD (List.take (Int.toNat (↑(List.length x.fst) : Int) - (0 : Nat)) (List.drop (0 : Nat) ([] ++ x.fst ++ [(-71 : Int)])))
                                                                            (List.take (Int.toNat (↑(List.length x.snd.fst) : Int) - (0 : Nat))
                                                                              (List.drop (0 : Nat) ([] ++ x.snd.fst ++ [(-71 : Int)]))) →
                                                                        True ∧
                                                                          ∀ (y_2 : Bool × Unit),
                                                                            Kd.wf Kd.bool y_2.fst ∧ True →
                                                                              y_2.fst = BegD x.fst x.snd.fst →
                                                                                (decide (y.fst = y_2.fst) = true → True) ∧
                                                                                  (decide (y.fst = y_2.fst) = true → True) ∧
                                                                                    (decide (y.fst = y_2.fst) = true →
                                                                                        (decide (y.fst = y_2.fst) == true) = true ∧
                                                                                          (decide (y.fst = y_2.fst) == true) = true ∧
                                                                                            True ∧
                                                                                              ∀ (y : Bool × Unit),
                                                                                                Kd.wf Kd.bool y.fst ∧ True →
                                                                                                  (List.take (Int.toNat (↑(List.length x.fst) : Int) - (0 : Nat))
                                                                                                          (List.drop (0 : Nat) ([] ++ x.fst ++ [(-71 : Int)])) =
                                                                                                        x.fst →
                                                                                                      y.fst = true) →
                                                                                                    (y.fst = true → True) ∧
                                                                                                      (y.fst = true → True) ∧
                                                                                                        (y.fst = true → (y.fst == true) = true ∧ True) ∧
                                                                                                          (y.fst = true → (y.fst == true) = true ∧ True) ∧
                                                                                                            (y.fst = true →
                                                                                                                (y.fst == true) = true ∧
                                                                                                                  (y.fst == true) = true ∧
                                                                                                                    ((0 : Int) ≤ IntKind.wrap IntKind.i64 ((↑(List.length x.fst) : Int) + (1 : Int)) ∧
                                                                                                                        IntKind.wrap IntKind.i64 ((↑(List.length x.fst) : Int) + (1 : Int)) ≤
                                                                                                                          (↑(List.length ([] ++ x.fst ++ [(-71 : Int)]) - (0 : Nat)) : Int)) ∧
                                                                                                                      True) ∧
                                                                                                              (y.fst = true → True) ∧
                                                                                                                (y.fst = true → (y.fst == true) = true ∧ True) ∧
                                                                                                                  (y.fst = true →
                                                                                                                      (y.fst == true) = true ∧
                                                                                                                        (y.fst == true) = true ∧
                                                                                                                          ((0 : Int) ≤ (↑(List.length x.fst) : Int) ∧
                                                                                                                              (↑(List.length x.fst) : Int) <
                                                                                                                                (↑(Int.toNat
                                                                                                                                        (IntKind.wrap IntKind.i64
                                                                                                                                          ((↑(List.length x.fst) : Int) + (1 : Int))) -
                                                                                                                                      (0 : Nat)) :
                                                                                                                                  Int)) ∧
                                                                                                                            True) ∧
                                                                                                                    (y.fst = true → (y.fst == true) = true ∧ True) ∧
                                                                                                                      (y.fst = true → (y.fst == true) = true ∧ True) ∧
                                                                                                                        (y.fst = true → (y.fst == true) = true) ∧
                                                                                                                          ((bif y.fst then
                                                                                                                                  decide
                                                                                                                                    (List.getD ([] ++ x.fst ++ [(-71 : Int)])
                                                                                                                                        ((0 : Nat) + Int.toNat (↑(List.length x.fst) : Int))
                                                                                                                                        (Kd.dft (Kd.int IntKind.i64)) =
                                                                                                                                      (-71 : Int))
                                                                                                                                else false) =
                                                                                                                                true →
                                                                                                                              True) ∧
                                                                                                                            ((bif y.fst then
                                                                                                                                    decide
                                                                                                                                      (List.getD ([] ++ x.fst ++ [(-71 : Int)])
                                                                                                                                          ((0 : Nat) + Int.toNat (↑(List.length x.fst) : Int))
                                                                                                                                          (Kd.dft (Kd.int IntKind.i64)) =
                                                                                                                                        (-71 : Int))
                                                                                                                                  else false) =
                                                                                                                                  true →
                                                                                                                                True) ∧
                                                                                                                              ((bif y.fst then
                                                                                                                                      decide
                                                                                                                                        (List.getD ([] ++ x.fst ++ [(-71 : Int)])
                                                                                                                                            ((0 : Nat) + Int.toNat (↑(List.length x.fst) : Int))
                                                                                                                                            (Kd.dft (Kd.int IntKind.i64)) =
                                                                                                                                          (-71 : Int))
                                                                                                                                    else false) =
                                                                                                                                    true →
                                                                                                                                  ((bif y.fst then
                                                                                                                                          decide
                                                                                                                                            (List.getD ([] ++ x.fst ++ [(-71 : Int)])
                                                                                                                                                ((0 : Nat) + Int.toNat (↑(List.length x.fst) : Int))
                                                                                                                                                (Kd.dft (Kd.int IntKind.i64)) =
                                                                                                                                              (-71 : Int))
                                                                                                                                        else false) ==
                                                                                                                                        true) =
                                                                                                                                      true ∧
                                                                                                                                    ((bif y.fst then
                                                                                                                                            decide
                                                                                                                                              (List.getD ([] ++ x.fst ++ [(-71 : Int)])
                                                                                                                                                  ((0 : Nat) + Int.toNat (↑(List.length x.fst) : Int))
                                                                                                                                                  (Kd.dft (Kd.int IntKind.i64)) =
                                                                                                                                                (-71 : Int))
                                                                                                                                          else false) ==
                                                                                                                                          true) =
                                                                                                                                        true ∧
                                                                                                                                      True ∧
                                                                                                                                        ∀ (y : Bool × Unit),
                                                                                                                                          Kd.wf Kd.bool y.fst ∧ True →
                                                                                                                                            (List.take
                                                                                                                                                    (Int.toNat (↑(List.length x.snd.fst) : Int) -
                                                                                                                                                      (0 : Nat))
                                                                                                                                                    (List.drop (0 : Nat)
                                                                                                                                                      ([] ++ x.snd.fst ++ [(-71 : Int)])) =
                                                                                                                                                  x.snd.fst →
                                                                                                                                                y.fst = true) →
                                                                                                                                              (y.fst = true → True) ∧
                                                                                                                                                (y.fst = true → True) ∧
                                                                                                                                                  (y.fst = true → (y.fst == true) = true ∧ True) ∧
                                                                                                                                                    (y.fst = true → (y.fst == true) = true ∧ True) ∧
                                                                                                                                                      (y.fst = true →
                                                                                                                                                          (y.fst == true) = true ∧
                                                                                                                                                            (y.fst == true) = true ∧
                                                                                                                                                              ((0 : Int) ≤
                                                                                                                                                                    IntKind.wrap IntKind.i64
                                                                                                                                                                      ((↑(List.length x.snd.fst) : Int) +
                                                                                                                                                                        (1 : Int)) ∧
                                                                                                                                                                  IntKind.wrap IntKind.i64
                                                                                                                                                                      ((↑(List.length x.snd.fst) : Int) +
                                                                                                                                                                        (1 : Int)) ≤
                                                                                                                                                                    (↑(List.length
                                                                                                                                                                            ([] ++ x.snd.fst ++
                                                                                                                                                                              [(-71 : Int)]) -
                                                                                                                                                                          (0 : Nat)) :
                                                                                                                                                                      Int)) ∧
                                                                                                                                                                True) ∧
                                                                                                                                                        (y.fst = true → True) ∧
                                                                                                                                                          (y.fst = true → (y.fst == true) = true ∧ True) ∧
                                                                                                                                                            (y.fst = true →
                                                                                                                                                                (y.fst == true) = true ∧
                                                                                                                                                                  (y.fst == true) = true ∧
                                                                                                                                                                    ((0 : Int) ≤
                                                                                                                                                                          (↑(List.length x.snd.fst) :
                                                                                                                                                                            Int) ∧
                                                                                                                                                                        (↑(List.length x.snd.fst) : Int) <
                                                                                                                                                                          (↑(Int.toNat
                                                                                                                                                                                  (IntKind.wrap
                                                                                                                                                                                    IntKind.i64
                                                                                                                                                                                    ((↑(List.length
                                                                                                                                                                                            x.snd.fst) :
                                                                                                                                                                                        Int) +
                                                                                                                                                                                      (1 : Int))) -
                                                                                                                                                                                (0 : Nat)) :
                                                                                                                                                                            Int)) ∧
                                                                                                                                                                      True) ∧
                                                                                                                                                              (y.fst = true →
                                                                                                                                                                  (y.fst == true) = true ∧ True) ∧
                                                                                                                                                                (y.fst = true →
                                                                                                                                                                    (y.fst == true) = true ∧ True) ∧
                                                                                                                                                                  (y.fst = true →
                                                                                                                                                                      (y.fst == true) = true) ∧
                                                                                                                                                                    ((bif y.fst then
                                                                                                                                                                            decide
                                                                                                                                                                              (List.getD
                                                                                                                                                                                  ([] ++ x.snd.fst ++
                                                                                                                                                                                    [(-71 : Int)])
                                                                                                                                                                                  ((0 : Nat) +
                                                                                                                                                                                    Int.toNat
                                                                                                                                                                                      (↑(List.length
                                                                                                                                                                                            x.snd.fst) :
                                                                                                                                                                                        Int))
                                                                                                                                                                                  (Kd.dft
                                                                                                                                                                                    (Kd.int
                                                                                                                                                                                      IntKind.i64)) =
                                                                                                                                                                                (-71 : Int))
                                                                                                                                                                          else false) =
                                                                                                                                                                          true →
                                                                                                                                                                        [(1 : Int), (2 : Int)] =
                                                                                                                                                                            [(1 : Int), (2 : Int)] ∧
                                                                                                                                                                          ∀ (y : Bool × Unit),
                                                                                                                                                                            Kd.wf Kd.bool y.fst ∧ True →
                                                                                                                                                                              y.fst = true →
                                                                                                                                                                                (y.fst = true →
                                                                                                                                                                                    True ∧
                                                                                                                                                                                      ∀
                                                                                                                                                                                        (y :
                                                                                                                                                                                          Bool × Unit),
                                                                                                                                                                                        Kd.wf Kd.bool
                                                                                                                                                                                              y.fst ∧
                                                                                                                                                                                            True →
                                                                                                                                                                                          y.fst = true →
                                                                                                                                                                                            y.fst =
                                                                                                                                                                                              true) ∧
                                                                                                                                                                                  (y.fst = !true →
                                                                                                                                                                                    false = true)) ∧
                                                                                                                                                                      ((bif y.fst then
                                                                                                                                                                            decide
                                                                                                                                                                              (List.getD
                                                                                                                                                                                  ([] ++ x.snd.fst ++
                                                                                                                                                                                    [(-71 : Int)])
                                                                                                                                                                                  ((0 : Nat) +
                                                                                                                                                                                    Int.toNat
                                                                                                                                                                                      (↑(List.length
                                                                                                                                                                                            x.snd.fst) :
                                                                                                                                                                                        Int))
                                                                                                                                                                                  (Kd.dft
                                                                                                                                                                                    (Kd.int
                                                                                                                                                                                      IntKind.i64)) =
                                                                                                                                                                                (-71 : Int))
                                                                                                                                                                          else false) =
                                                                                                                                                                          !true →
                                                                                                                                                                        (false = true →
                                                                                                                                                                            True ∧
                                                                                                                                                                              ∀ (y : Bool × Unit),
                                                                                                                                                                                Kd.wf Kd.bool y.fst ∧
                                                                                                                                                                                    True →
                                                                                                                                                                                  y.fst = true →
                                                                                                                                                                                    y.fst = true) ∧
                                                                                                                                                                          (false = !true →
                                                                                                                                                                            false = true))) ∧
                                                                                                                                ((bif y.fst then
                                                                                                                                      decide
                                                                                                                                        (List.getD ([] ++ x.fst ++ [(-71 : Int)])
                                                                                                                                            ((0 : Nat) + Int.toNat (↑(List.length x.fst) : Int))
                                                                                                                                            (Kd.dft (Kd.int IntKind.i64)) =
                                                                                                                                          (-71 : Int))
                                                                                                                                    else false) =
                                                                                                                                    !true →
                                                                                                                                  (false = true →
                                                                                                                                      [(1 : Int), (2 : Int)] = [(1 : Int), (2 : Int)] ∧
                                                                                                                                        ∀ (y : Bool × Unit),
                                                                                                                                          Kd.wf Kd.bool y.fst ∧ True →
                                                                                                                                            y.fst = true →
                                                                                                                                              (y.fst = true →
                                                                                                                                                  True ∧
                                                                                                                                                    ∀ (y : Bool × Unit),
                                                                                                                                                      Kd.wf Kd.bool y.fst ∧ True →
                                                                                                                                                        y.fst = true → y.fst = true) ∧
                                                                                                                                                (y.fst = !true → false = true)) ∧
                                                                                                                                    (false = !true →
                                                                                                                                      (false = true →
                                                                                                                                          True ∧
                                                                                                                                            ∀ (y : Bool × Unit),
                                                                                                                                              Kd.wf Kd.bool y.fst ∧ True → y.fst = true → y.fst = true) ∧
                                                                                                                                        (false = !true → false = true)))) ∧
                                                                                      (decide (y.fst = y_2.fst) = !true →
                                                                                        (false = true → True) ∧
                                                                                          (false = true → True) ∧
                                                                                            (false = true →
                                                                                                (false == true) = true ∧
                                                                                                  (false == true) = true ∧
                                                                                                    True ∧
                                                                                                      ∀ (y : Bool × Unit),
                                                                                                        Kd.wf Kd.bool y.fst ∧ True →
                                                                                                          (List.take (Int.toNat (↑(List.length x.snd.fst) : Int) - (0 : Nat))
                                                                                                                  (List.drop (0 : Nat) ([] ++ x.snd.fst ++ [(-71 : Int)])) =
                                                                                                                x.snd.fst →
                                                                                                              y.fst = true) →
                                                                                                            (y.fst = true → True) ∧
                                                                                                              (y.fst = true → True) ∧
                                                                                                                (y.fst = true → (y.fst == true) = true ∧ True) ∧
                                                                                                                  (y.fst = true → (y.fst == true) = true ∧ True) ∧
                                                                                                                    (y.fst = true →
                                                                                                                        (y.fst == true) = true ∧
                                                                                                                          (y.fst == true) = true ∧
                                                                                                                            ((0 : Int) ≤
                                                                                                                                  IntKind.wrap IntKind.i64
                                                                                                                                    ((↑(List.length x.snd.fst) : Int) + (1 : Int)) ∧
                                                                                                                                IntKind.wrap IntKind.i64 ((↑(List.length x.snd.fst) : Int) + (1 : Int)) ≤
                                                                                                                                  (↑(List.length ([] ++ x.snd.fst ++ [(-71 : Int)]) - (0 : Nat)) : Int)) ∧
                                                                                                                              True) ∧
                                                                                                                      (y.fst = true → True) ∧
                                                                                                                        (y.fst = true → (y.fst == true) = true ∧ True) ∧
                                                                                                                          (y.fst = true →
                                                                                                                              (y.fst == true) = true ∧
                                                                                                                                (y.fst == true) = true ∧
                                                                                                                                  ((0 : Int) ≤ (↑(List.length x.snd.fst) : Int) ∧
                                                                                                                                      (↑(List.length x.snd.fst) : Int) <
                                                                                                                                        (↑(Int.toNat
                                                                                                                                                (IntKind.wrap IntKind.i64
                                                                                                                                                  ((↑(List.length x.snd.fst) : Int) + (1 : Int))) -
                                                                                                                                              (0 : Nat)) :
                                                                                                                                          Int)) ∧
                                                                                                                                    True) ∧
                                                                                                                            (y.fst = true → (y.fst == true) = true ∧ True) ∧
                                                                                                                              (y.fst = true → (y.fst == true) = true ∧ True) ∧
                                                                                                                                (y.fst = true → (y.fst == true) = true) ∧
                                                                                                                                  ((bif y.fst then
                                                                                                                                          decide
                                                                                                                                            (List.getD ([] ++ x.snd.fst ++ [(-71 : Int)])
                                                                                                                                                ((0 : Nat) + Int.toNat (↑(List.length x.snd.fst) : Int))
                                                                                                                                                (Kd.dft (Kd.int IntKind.i64)) =
                                                                                                                                              (-71 : Int))
                                                                                                                                        else false) =
                                                                                                                                        true →
                                                                                                                                      [(1 : Int), (2 : Int)] = [(1 : Int), (2 : Int)] ∧
                                                                                                                                        ∀ (y : Bool × Unit),
                                                                                                                                          Kd.wf Kd.bool y.fst ∧ True →
                                                                                                                                            y.fst = true →
                                                                                                                                              (y.fst = true →
                                                                                                                                                  True ∧
                                                                                                                                                    ∀ (y : Bool × Unit),
                                                                                                                                                      Kd.wf Kd.bool y.fst ∧ True →
                                                                                                                                                        y.fst = true → y.fst = true) ∧
                                                                                                                                                (y.fst = !true → false = true)) ∧
                                                                                                                                    ((bif y.fst then
                                                                                                                                          decide
                                                                                                                                            (List.getD ([] ++ x.snd.fst ++ [(-71 : Int)])
                                                                                                                                                ((0 : Nat) + Int.toNat (↑(List.length x.snd.fst) : Int))
                                                                                                                                                (Kd.dft (Kd.int IntKind.i64)) =
                                                                                                                                              (-71 : Int))
                                                                                                                                        else false) =
                                                                                                                                        !true →
                                                                                                                                      (false = true →
                                                                                                                                          True ∧
                                                                                                                                            ∀ (y : Bool × Unit),
                                                                                                                                              Kd.wf Kd.bool y.fst ∧ True → y.fst = true → y.fst = true) ∧
                                                                                                                                        (false = !true → false = true))) ∧
                                                                                              (false = !true →
                                                                                                (false = true →
                                                                                                    [(1 : Int), (2 : Int)] = [(1 : Int), (2 : Int)] ∧
                                                                                                      ∀ (y : Bool × Unit),
                                                                                                        Kd.wf Kd.bool y.fst ∧ True →
                                                                                                          y.fst = true →
                                                                                                            (y.fst = true →
                                                                                                                True ∧ ∀ (y : Bool × Unit), Kd.wf Kd.bool y.fst ∧ True → y.fst = true → y.fst = true) ∧
                                                                                                              (y.fst = !true → false = true)) ∧
                                                                                                  (false = !true →
                                                                                                    (false = true →
                                                                                                        True ∧ ∀ (y : Bool × Unit), Kd.wf Kd.bool y.fst ∧ True → y.fst = true → y.fst = true) ∧
                                                                                                      (false = !true → false = true))))) ∧
                                                          (decide (y.fst = y_1.fst) = !true →
                                                            (false = true → True) ∧
                                                              (false = true → True) ∧
                                                                (false = true →
                                                                    (false == true) = true ∧
                                                                      (false == true) = true ∧
                                                                        True ∧
                                                                          ∀ (y : Bool × Unit),
                                                                            Kd.wf Kd.bool y.fst ∧ True →
                                                                              (List.take (Int.toNat (↑(List.length x.fst) : Int) - (0 : Nat)) (List.drop (0 : Nat) ([] ++ x.fst ++ [(-71 : Int)])) =
                                                                                    x.fst →
                                                                                  y.fst = true) →
                                                                                (y.fst = true → True) ∧
                                                                                  (y.fst = true → True) ∧
                                                                                    (y.fst = true → (y.fst == true) = true ∧ True) ∧
                                                                                      (y.fst = true → (y.fst == true) = true ∧ True) ∧
                                                                                        (y.fst = true →
                                                                                            (y.fst == true) = true ∧
                                                                                              (y.fst == true) = true ∧
                                                                                                ((0 : Int) ≤ IntKind.wrap IntKind.i64 ((↑(List.length x.fst) : Int) + (1 : Int)) ∧
                                                                                                    IntKind.wrap IntKind.i64 ((↑(List.length x.fst) : Int) + (1 : Int)) ≤
                                                                                                      (↑(List.length ([] ++ x.fst ++ [(-71 : Int)]) - (0 : Nat)) : Int)) ∧
                                                                                                  True) ∧
                                                                                          (y.fst = true → True) ∧
                                                                                            (y.fst = true → (y.fst == true) = true ∧ True) ∧
                                                                                              (y.fst = true →
                                                                                                  (y.fst == true) = true ∧
                                                                                                    (y.fst == true) = true ∧
                                                                                                      ((0 : Int) ≤ (↑(List.length x.fst) : Int) ∧
                                                                                                          (↑(List.length x.fst) : Int) <
                                                                                                            (↑(Int.toNat (IntKind.wrap IntKind.i64 ((↑(List.length x.fst) : Int) + (1 : Int))) -
                                                                                                                  (0 : Nat)) :
                                                                                                              Int)) ∧
                                                                                                        True) ∧
                                                                                                (y.fst = true → (y.fst == true) = true ∧ True) ∧
                                                                                                  (y.fst = true → (y.fst == true) = true ∧ True) ∧
                                                                                                    (y.fst = true → (y.fst == true) = true) ∧
                                                                                                      ((bif y.fst then
                                                                                                              decide
                                                                                                                (List.getD ([] ++ x.fst ++ [(-71 : Int)])
                                                                                                                    ((0 : Nat) + Int.toNat (↑(List.length x.fst) : Int)) (Kd.dft (Kd.int IntKind.i64)) =
                                                                                                                  (-71 : Int))
                                                                                                            else false) =
                                                                                                            true →
                                                                                                          True) ∧
                                                                                                        ((bif y.fst then
                                                                                                                decide
                                                                                                                  (List.getD ([] ++ x.fst ++ [(-71 : Int)])
                                                                                                                      ((0 : Nat) + Int.toNat (↑(List.length x.fst) : Int)) (Kd.dft (Kd.int IntKind.i64)) =
                                                                                                                    (-71 : Int))
                                                                                                              else false) =
                                                                                                              true →
                                                                                                            True) ∧
                                                                                                          ((bif y.fst then
                                                                                                                  decide
                                                                                                                    (List.getD ([] ++ x.fst ++ [(-71 : Int)])
                                                                                                                        ((0 : Nat) + Int.toNat (↑(List.length x.fst) : Int))
                                                                                                                        (Kd.dft (Kd.int IntKind.i64)) =
                                                                                                                      (-71 : Int))
                                                                                                                else false) =
                                                                                                                true →
                                                                                                              ((bif y.fst then
                                                                                                                      decide
                                                                                                                        (List.getD ([] ++ x.fst ++ [(-71 : Int)])
                                                                                                                            ((0 : Nat) + Int.toNat (↑(List.length x.fst) : Int))
                                                                                                                            (Kd.dft (Kd.int IntKind.i64)) =
                                                                                                                          (-71 : Int))
                                                                                                                    else false) ==
                                                                                                                    true) =
                                                                                                                  true ∧
                                                                                                                ((bif y.fst then
                                                                                                                        decide
                                                                                                                          (List.getD ([] ++ x.fst ++ [(-71 : Int)])
                                                                                                                              ((0 : Nat) + Int.toNat (↑(List.length x.fst) : Int))
                                                                                                                              (Kd.dft (Kd.int IntKind.i64)) =
                                                                                                                            (-71 : Int))
                                                                                                                      else false) ==
                                                                                                                      true) =
                                                                                                                    true ∧
                                                                                                                  True ∧
                                                                                                                    ∀ (y : Bool × Unit),
                                                                                                                      Kd.wf Kd.bool y.fst ∧ True →
                                                                                                                        (List.take (Int.toNat (↑(List.length x.snd.fst) : Int) - (0 : Nat))
                                                                                                                                (List.drop (0 : Nat) ([] ++ x.snd.fst ++ [(-71 : Int)])) =
                                                                                                                              x.snd.fst →
                                                                                                                            y.fst = true) →
                                                                                                                          (y.fst = true → True) ∧
                                                                                                                            (y.fst = true → True) ∧
                                                                                                                              (y.fst = true → (y.fst == true) = true ∧ True) ∧
                                                                                                                                (y.fst = true → (y.fst == true) = true ∧ True) ∧
                                                                                                                                  (y.fst = true →
                                                                                                                                      (y.fst == true) = true ∧
                                                                                                                                        (y.fst == true) = true ∧
                                                                                                                                          ((0 : Int) ≤
                                                                                                                                                IntKind.wrap IntKind.i64
                                                                                                                                                  ((↑(List.length x.snd.fst) : Int) + (1 : Int)) ∧
                                                                                                                                              IntKind.wrap IntKind.i64
                                                                                                                                                  ((↑(List.length x.snd.fst) : Int) + (1 : Int)) ≤
                                                                                                                                                (↑(List.length ([] ++ x.snd.fst ++ [(-71 : Int)]) -
                                                                                                                                                      (0 : Nat)) :
                                                                                                                                                  Int)) ∧
                                                                                                                                            True) ∧
                                                                                                                                    (y.fst = true → True) ∧
                                                                                                                                      (y.fst = true → (y.fst == true) = true ∧ True) ∧
                                                                                                                                        (y.fst = true →
                                                                                                                                            (y.fst == true) = true ∧
                                                                                                                                              (y.fst == true) = true ∧
                                                                                                                                                ((0 : Int) ≤ (↑(List.length x.snd.fst) : Int) ∧
                                                                                                                                                    (↑(List.length x.snd.fst) : Int) <
                                                                                                                                                      (↑(Int.toNat
                                                                                                                                                              (IntKind.wrap IntKind.i64
                                                                                                                                                                ((↑(List.length x.snd.fst) : Int) +
                                                                                                                                                                  (1 : Int))) -
                                                                                                                                                            (0 : Nat)) :
                                                                                                                                                        Int)) ∧
                                                                                                                                                  True) ∧
                                                                                                                                          (y.fst = true → (y.fst == true) = true ∧ True) ∧
                                                                                                                                            (y.fst = true → (y.fst == true) = true ∧ True) ∧
                                                                                                                                              (y.fst = true → (y.fst == true) = true) ∧
                                                                                                                                                ((bif y.fst then
                                                                                                                                                        decide
                                                                                                                                                          (List.getD ([] ++ x.snd.fst ++ [(-71 : Int)])
                                                                                                                                                              ((0 : Nat) +
                                                                                                                                                                Int.toNat
                                                                                                                                                                  (↑(List.length x.snd.fst) : Int))
                                                                                                                                                              (Kd.dft (Kd.int IntKind.i64)) =
                                                                                                                                                            (-71 : Int))
                                                                                                                                                      else false) =
                                                                                                                                                      true →
                                                                                                                                                    [(1 : Int), (2 : Int)] = [(1 : Int), (2 : Int)] ∧
                                                                                                                                                      ∀ (y : Bool × Unit),
                                                                                                                                                        Kd.wf Kd.bool y.fst ∧ True →
                                                                                                                                                          y.fst = true →
                                                                                                                                                            (y.fst = true →
                                                                                                                                                                True ∧
                                                                                                                                                                  ∀ (y : Bool × Unit),
                                                                                                                                                                    Kd.wf Kd.bool y.fst ∧ True →
                                                                                                                                                                      y.fst = true → y.fst = true) ∧
                                                                                                                                                              (y.fst = !true → false = true)) ∧
                                                                                                                                                  ((bif y.fst then
                                                                                                                                                        decide
                                                                                                                                                          (List.getD ([] ++ x.snd.fst ++ [(-71 : Int)])
                                                                                                                                                              ((0 : Nat) +
                                                                                                                                                                Int.toNat
                                                                                                                                                                  (↑(List.length x.snd.fst) : Int))
                                                                                                                                                              (Kd.dft (Kd.int IntKind.i64)) =
                                                                                                                                                            (-71 : Int))
                                                                                                                                                      else false) =
                                                                                                                                                      !true →
                                                                                                                                                    (false = true →
                                                                                                                                                        True ∧
                                                                                                                                                          ∀ (y : Bool × Unit),
                                                                                                                                                            Kd.wf Kd.bool y.fst ∧ True →
                                                                                                                                                              y.fst = true → y.fst = true) ∧
                                                                                                                                                      (false = !true → false = true))) ∧
                                                                                                            ((bif y.fst then
                                                                                                                  decide
                                                                                                                    (List.getD ([] ++ x.fst ++ [(-71 : Int)])
                                                                                                                        ((0 : Nat) + Int.toNat (↑(List.length x.fst) : Int))
                                                                                                                        (Kd.dft (Kd.int IntKind.i64)) =
                                                                                                                      (-71 : Int))
                                                                                                                else false) =
                                                                                                                !true →
                                                                                                              (false = true →
                                                                                                                  [(1 : Int), (2 : Int)] = [(1 : Int), (2 : Int)] ∧
                                                                                                                    ∀ (y : Bool × Unit),
                                                                                                                      Kd.wf Kd.bool y.fst ∧ True →
                                                                                                                        y.fst = true →
                                                                                                                          (y.fst = true →
                                                                                                                              True ∧
                                                                                                                                ∀ (y : Bool × Unit),
                                                                                                                                  Kd.wf Kd.bool y.fst ∧ True → y.fst = true → y.fst = true) ∧
                                                                                                                            (y.fst = !true → false = true)) ∧
                                                                                                                (false = !true →
                                                                                                                  (false = true →
                                                                                                                      True ∧
                                                                                                                        ∀ (y : Bool × Unit), Kd.wf Kd.bool y.fst ∧ True → y.fst = true → y.fst = true) ∧
                                                                                                                    (false = !true → false = true)))) ∧
                                                                  (false = !true →
                                                                    (false = true → True) ∧
                                                                      (false = true → True) ∧
                                                                        (false = true →
                                                                            (false == true) = true ∧
                                                                              (false == true) = true ∧
                                                                                True ∧
                                                                                  ∀ (y : Bool × Unit),
                                                                                    Kd.wf Kd.bool y.fst ∧ True →
                                                                                      (List.take (Int.toNat (↑(List.length x.snd.fst) : Int) - (0 : Nat))
                                                                                              (List.drop (0 : Nat) ([] ++ x.snd.fst ++ [(-71 : Int)])) =
                                                                                            x.snd.fst →
                                                                                          y.fst = true) →
                                                                                        (y.fst = true → True) ∧
                                                                                          (y.fst = true → True) ∧
                                                                                            (y.fst = true → (y.fst == true) = true ∧ True) ∧
                                                                                              (y.fst = true → (y.fst == true) = true ∧ True) ∧
                                                                                                (y.fst = true →
                                                                                                    (y.fst == true) = true ∧
                                                                                                      (y.fst == true) = true ∧
                                                                                                        ((0 : Int) ≤ IntKind.wrap IntKind.i64 ((↑(List.length x.snd.fst) : Int) + (1 : Int)) ∧
                                                                                                            IntKind.wrap IntKind.i64 ((↑(List.length x.snd.fst) : Int) + (1 : Int)) ≤
                                                                                                              (↑(List.length ([] ++ x.snd.fst ++ [(-71 : Int)]) - (0 : Nat)) : Int)) ∧
                                                                                                          True) ∧
                                                                                                  (y.fst = true → True) ∧
                                                                                                    (y.fst = true → (y.fst == true) = true ∧ True) ∧
                                                                                                      (y.fst = true →
                                                                                                          (y.fst == true) = true ∧
                                                                                                            (y.fst == true) = true ∧
                                                                                                              ((0 : Int) ≤ (↑(List.length x.snd.fst) : Int) ∧
                                                                                                                  (↑(List.length x.snd.fst) : Int) <
                                                                                                                    (↑(Int.toNat
                                                                                                                            (IntKind.wrap IntKind.i64 ((↑(List.length x.snd.fst) : Int) + (1 : Int))) -
                                                                                                                          (0 : Nat)) :
                                                                                                                      Int)) ∧
                                                                                                                True) ∧
                                                                                                        (y.fst = true → (y.fst == true) = true ∧ True) ∧
                                                                                                          (y.fst = true → (y.fst == true) = true ∧ True) ∧
                                                                                                            (y.fst = true → (y.fst == true) = true) ∧
                                                                                                              ((bif y.fst then
                                                                                                                      decide
                                                                                                                        (List.getD ([] ++ x.snd.fst ++ [(-71 : Int)])
                                                                                                                            ((0 : Nat) + Int.toNat (↑(List.length x.snd.fst) : Int))
                                                                                                                            (Kd.dft (Kd.int IntKind.i64)) =
                                                                                                                          (-71 : Int))
                                                                                                                    else false) =
                                                                                                                    true →
                                                                                                                  [(1 : Int), (2 : Int)] = [(1 : Int), (2 : Int)] ∧
                                                                                                                    ∀ (y : Bool × Unit),
                                                                                                                      Kd.wf Kd.bool y.fst ∧ True →
                                                                                                                        y.fst = true →
                                                                                                                          (y.fst = true →
                                                                                                                              True ∧
                                                                                                                                ∀ (y : Bool × Unit),
                                                                                                                                  Kd.wf Kd.bool y.fst ∧ True → y.fst = true → y.fst = true) ∧
                                                                                                                            (y.fst = !true → false = true)) ∧
                                                                                                                ((bif y.fst then
                                                                                                                      decide
                                                                                                                        (List.getD ([] ++ x.snd.fst ++ [(-71 : Int)])
                                                                                                                            ((0 : Nat) + Int.toNat (↑(List.length x.snd.fst) : Int))
                                                                                                                            (Kd.dft (Kd.int IntKind.i64)) =
                                                                                                                          (-71 : Int))
                                                                                                                    else false) =
                                                                                                                    !true →
                                                                                                                  (false = true →
                                                                                                                      True ∧
                                                                                                                        ∀ (y : Bool × Unit), Kd.wf Kd.bool y.fst ∧ True → y.fst = true → y.fst = true) ∧
                                                                                                                    (false = !true → false = true))) ∧
                                                                          (false = !true →
                                                                            (false = true →
                                                                                [(1 : Int), (2 : Int)] = [(1 : Int), (2 : Int)] ∧
                                                                                  ∀ (y : Bool × Unit),
                                                                                    Kd.wf Kd.bool y.fst ∧ True →
                                                                                      y.fst = true →
                                                                                        (y.fst = true → True ∧ ∀ (y : Bool × Unit), Kd.wf Kd.bool y.fst ∧ True → y.fst = true → y.fst = true) ∧
                                                                                          (y.fst = !true → false = true)) ∧
                                                                              (false = !true →
                                                                                (false = true → True ∧ ∀ (y : Bool × Unit), Kd.wf Kd.bool y.fst ∧ True → y.fst = true → y.fst = true) ∧
                                                                                  (false = !true → false = true)))))
theorem e5 : t5 = Con.vc c5 (mkEnv ty [(13, i13), (14, conSem c14), (15, conSem c15), (16, conSem c16), (17, conSem c17), (18, i18), (12, conSem c12), (9, conSem c9)] [0, 1, 4, 5, 6]) {} Try.f5.ntmps Try.f5.results.toList (bodyOf Try.f5) := by kernel_rfl
theorem k5 : t5 := by
  unfold t5
  rintro ⟨a, b, _⟩ hx hp
  have hb : Kd.bulk (.sl (.int .i64)) a + (Kd.bulk (.sl (.int .i64)) b + 0) ≤ 1048576 := hp
  rw [bulk_ints, bulk_ints] at hb
  have e1 : ∀ l : List Int, List.take ((l.length : Int).toNat - 0) (List.drop 0 (l ++ [-71])) = l := fun l => by simp
  have e2 : ∀ l : List Int, (l ++ [-71]).getD (l.length : Int).toNat (Kd.dft (.int .i64)) = -71 := fun l => by simp
  have e3 : IntKind.wrap .i64 ((a.length : Int) + 1) = a.length + 1 := by rw [IntKind.wrap_i64]; omega
  have e4 : IntKind.wrap .i64 ((b.length : Int) + 1) = b.length + 1 := by rw [IntKind.wrap_i64]; omega
  simp only [true_and, and_true, eq_self_iff_true, implies_true, reduceCtorEq, false_implies, true_implies, decide_eq_true_eq, decide_eq_false_iff_not, beq_self_eq_true, Bool.not_eq_true', ne_eq, Decidable.not_not, List.nil_append, List.length_singleton, List.length_cons, List.length_nil, Nat.zero_add, Nat.add_zero, Nat.mul_one, and_self, beq_iff_eq, Bool.not_true, Bool.not_false, Bool.not_eq_false', Bool.cond_false_right, Bool.and_eq_true, imp_self, Bool.not_eq_true, Bool.cond_true_left, Bool.or_eq_true, e1, e2, e3, e4, List.length_append]
  refine ⟨by decide, by omega, by omega, by decide, by omega, by omega, by omega, by decide, by omega, by omega, by decide, by omega, by omega, by omega, fun y _ ey y1 _ ey1 => ⟨fun h => ⟨h, h, fun y2 _ f2 y3 _ f3 => ⟨fun h2 => ⟨h2, h2, fun y4 _ t4 => ⟨fun _ => ⟨t4, t4, by omega, by omega⟩, fun _ => ⟨t4, t4, by omega, by omega⟩, fun _ => ⟨t4, t4, fun y5 _ t5 => ⟨fun _ => ⟨t5, t5, by omega, by omega⟩, fun _ => ⟨t5, t5, by omega, by omega⟩, fun _ y6 _ t6 hf => ?_, fun hf => ?_⟩⟩, fun hf => ?_⟩⟩, fun h2 => h2 (f2.trans f3.symm)⟩⟩, fun h => h (ey.trans ey1.symm)⟩⟩
  · rw [t6] at hf; cases hf
  · simp [t5] at hf
  · simp [t4] at hf
theorem h5 : c5.ok Try.prog 5 := con_ok (E := mkEnv ty [(13, i13), (14, conSem c14), (15, conSem c15), (16, conSem c16), (17, conSem c17), (18, i18), (12, conSem c12), (9, conSem c9)] [0, 1, 4, 5, 6]) (H := {}) (mkEnv_ok _ tyOk (by kernel_rfl) ⟨i13_ok, h14.call, h15.call, h16.call, h17.call, i18_ok, h12.call, h9.call, trivial⟩) (by kernel_rfl) (by kernel_rfl) (Eq.mp e5 k5)

end Go.Proofs.Ytkdffofjnjamlaa
