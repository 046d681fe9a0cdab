/- Walks. -/
import Derived.Test.YtlpbhgcndebkcaaZStrsA
set_option linter.unusedVariables false
set_option linter.unusedSimpArgs false
namespace Go.Proofs.Ytlpbhgcndebkcaa
open Go Go.Vc Go.Pl Go.Proofs
set_option linter.unusedVariables false
set_option linter.unusedSimpArgs false
theorem h48 : CallOk Try.prog GL 48 (conSem c_bytealg_IndexByteString) := by
  refine ext_ok (ks := [Kd.str, U8]) (k := I64) rfl ?_
  rintro w F ⟨l, c, u⟩ vs h _
  obtain ⟨v1, r1, rfl, h1, v2, r2, rfl, h2, rfl⟩ := h
  obtain ⟨s, rfl, rfl, hs⟩ := VRep_str.1 h1
  obtain ⟨rfl, hc⟩ := VRep_int.1 h2
  have hc2 : 0 ≤ c ∧ c ≤ 255 := inr_u8.1 hc
  refine ⟨_, (Lib.indexByte s.data.toList c.toNat.toUInt8 : Int), ?_, idxB_lib _ _ hc2, VRep_int.2 ⟨rfl, ?_⟩⟩
  · rw [run_callFunc_extern Try.func48 (by kernel_rfl) (by kernel_rfl) (by kernel_rfl) (e := Extern.BytealgIndexByte.indexByte) (by kernel_rfl)]
    show ((Extern.BytealgIndexByte.indexByte #[.string s, .int .u8 c]).run Try.prog w).andThen _ = _
    rw [Lib.run_indexByteString]
    rfl
  · rw [idxB_lib _ _ hc2]
    have h1 := idxB_ge (bs s) c
    have h3 : s.size ≤ 9223372036854775807 := hs
    rw [bs_length] at h1
    show InR .i64 (idxB (bs s) c)
    generalize idxB (bs s) c = r at h1 ⊢
    simp [InR, IntKind.min, IntKind.max, IntKind.signed, IntKind.bits]
    omega
def t44 : Prop :=
  ∀ (x : List Int × Int × Unit),
    Kd.wf Kd.str x.fst ∧ Kd.wf (Kd.int IntKind.u8) x.snd.fst ∧ True →
      True → True ∧ (∀ (y : Int × Unit), Kd.wf (Kd.int IntKind.i64) y.fst ∧ True → y.fst = idxB x.fst x.snd.fst → y.fst = idxB x.fst x.snd.fst) ∧ True
theorem e44 : t44 = Con.vc c_stringslite_IndexByte GL (mkEnv ty [(48, conSem c_bytealg_IndexByteString)] [] [] [0, 1, 4]) {} Try.f44.ntmps Try.f44.results.toList (bodyOf Try.f44) := by kernel_rfl
theorem k44 : t44 := by
  unfold t44
  rintro ⟨l, c, _⟩ hx _
  try dsimp +instances only [dft_int, dft_sl, dft_str]
  simp only [true_and, and_true, eq_self_iff_true, implies_true, reduceCtorEq, false_implies, true_implies, decide_eq_true_eq, decide_eq_false_iff_not, beq_self_eq_true, Bool.not_eq_true', ne_eq, Decidable.not_not, List.nil_append, List.length_singleton, List.length_cons, List.length_nil, Nat.zero_add, Nat.add_zero, Nat.mul_one, and_self, beq_iff_eq, Bool.not_true, Bool.not_false, Bool.not_eq_false', Bool.cond_false_right, Bool.and_eq_true, imp_self, Bool.not_eq_true, Bool.cond_true_left, Bool.or_eq_true]
theorem h44 : c_stringslite_IndexByte.ok Try.prog GL 44 := con_ok (H := {}) (mkEnv_ok (gl := GL) (l := [(48, conSem c_bytealg_IndexByteString)]) (q := []) (d := []) _ tyOk (by kernel_rfl) ⟨h48, trivial⟩ trivial trivial) (by kernel_rfl) (by kernel_rfl) (Eq.mp e44 k44)

def t41 : Prop :=
  ∀ (x : List Int × Int × Unit),
    Kd.wf Kd.str x.fst ∧ Kd.wf (Kd.int IntKind.u8) x.snd.fst ∧ True →
      True → True ∧ (∀ (y : Int × Unit), Kd.wf (Kd.int IntKind.i64) y.fst ∧ True → y.fst = idxB x.fst x.snd.fst → y.fst = idxB x.fst x.snd.fst) ∧ True
theorem e41 : t41 = Con.vc c_strings_IndexByte GL (mkEnv ty [(44, conSem c_stringslite_IndexByte)] [] [] [0, 1, 4]) {} Try.f41.ntmps Try.f41.results.toList (bodyOf Try.f41) := by kernel_rfl
theorem k41 : t41 := by
  unfold t41
  rintro ⟨l, c, _⟩ hx _
  try dsimp +instances only [dft_int, dft_sl, dft_str]
  simp only [true_and, and_true, eq_self_iff_true, implies_true, reduceCtorEq, false_implies, true_implies, decide_eq_true_eq, decide_eq_false_iff_not, beq_self_eq_true, Bool.not_eq_true', ne_eq, Decidable.not_not, List.nil_append, List.length_singleton, List.length_cons, List.length_nil, Nat.zero_add, Nat.add_zero, Nat.mul_one, and_self, beq_iff_eq, Bool.not_true, Bool.not_false, Bool.not_eq_false', Bool.cond_false_right, Bool.and_eq_true, imp_self, Bool.not_eq_true, Bool.cond_true_left, Bool.or_eq_true]
theorem h41 : c_strings_IndexByte.ok Try.prog GL 41 := con_ok (H := {}) (mkEnv_ok (gl := GL) (l := [(44, conSem c_stringslite_IndexByte)]) (q := []) (d := []) _ tyOk (by kernel_rfl) ⟨h44.call, trivial⟩ trivial trivial) (by kernel_rfl) (by kernel_rfl) (Eq.mp e41 k41)

theorem h43 : c_stringslite_Index.ok Try.prog GL 43 := by
  refine lib_ok (ks := [Kd.str, Kd.str]) (rs := [I64]) Try.func43 (by kernel_rfl) (by decide) ?_
  rintro w F ⟨l, m, u⟩ vs h hg hp
  obtain ⟨v1, r1, rfl, h1, v2, r2, rfl, h2, rfl⟩ := h
  obtain ⟨s, rfl, rfl, hs⟩ := VRep_str.1 h1
  obtain ⟨t, rfl, rfl, ht⟩ := VRep_str.1 h2
  obtain ⟨_, _, k, hk⟩ := hg 0 (.num .i64) rfl
  have hp : (bs s).length < 4294967281 := hp
  rw [bs_length] at hp
  refine Calls.mono (Try.stringslite_Index s t k w hp hk) ?_
  rintro e w' ⟨rfl, rfl⟩
  have hb : ∀ s : ByteArray, Bys (bs s) := bs_range
  have e1 : Lib.index s.data.toList t.data.toList = idxS (bs s) (bs t) := by
    rw [← u8s_bs s, ← u8s_bs t, idxS_lib _ _ (hb s) (hb t)]
  rw [e1]
  have h1 := idxS_ge (bs s) (bs t)
  rw [bs_length] at h1
  refine ⟨Kept.refl _ _, [_], (idxS (bs s) (bs t), ()), rfl, rfl, _, [], rfl, VRep_int.2 ⟨rfl, ?_⟩, rfl⟩
  generalize idxS (bs s) (bs t) = r at h1 ⊢
  simp [InR, IntKind.min, IntKind.max, IntKind.signed, IntKind.bits]
  omega
def t38 : Prop :=
  ∀ (x : List Int × List Int × Unit),
    Kd.wf Kd.str x.fst ∧ Kd.wf Kd.str x.snd.fst ∧ True →
      List.length x.fst < (4294967281 : Nat) →
        List.length x.fst < (4294967281 : Nat) ∧ (∀ (y : Int × Unit), Kd.wf (Kd.int IntKind.i64) y.fst ∧ True → y.fst = idxS x.fst x.snd.fst → y.fst = idxS x.fst x.snd.fst) ∧ True
theorem e38 : t38 = Con.vc c_strings_Index GL (mkEnv ty [(43, conSem c_stringslite_Index)] [] [] [0, 1, 4]) {} Try.f38.ntmps Try.f38.results.toList (bodyOf Try.f38) := by kernel_rfl
theorem k38 : t38 := by
  unfold t38
  rintro ⟨l, c, _⟩ hx hp
  try dsimp +instances only [dft_int, dft_sl, dft_str]
  simp only [true_and, and_true, eq_self_iff_true, implies_true, reduceCtorEq, false_implies, true_implies, decide_eq_true_eq, decide_eq_false_iff_not, beq_self_eq_true, Bool.not_eq_true', ne_eq, Decidable.not_not, List.nil_append, List.length_singleton, List.length_cons, List.length_nil, Nat.zero_add, Nat.add_zero, Nat.mul_one, and_self, beq_iff_eq, Bool.not_true, Bool.not_false, Bool.not_eq_false', Bool.cond_false_right, Bool.and_eq_true, imp_self, Bool.not_eq_true, Bool.cond_true_left, Bool.or_eq_true]
  exact hp
theorem h38 : c_strings_Index.ok Try.prog GL 38 := con_ok (H := {}) (mkEnv_ok (gl := GL) (l := [(43, conSem c_stringslite_Index)]) (q := []) (d := []) _ tyOk (by kernel_rfl) ⟨h43.call, trivial⟩ trivial trivial) (by kernel_rfl) (by kernel_rfl) (Eq.mp e38 k38)

def t27 : Prop :=
  ∀ (x : List Int × List Int × Unit),
    Kd.wf Kd.str x.fst ∧ Kd.wf Kd.str x.snd.fst ∧ True →
      List.length x.fst < (4294967281 : Nat) →
        List.length x.fst < (4294967281 : Nat) ∧
          (∀ (y : Int × Unit), Kd.wf (Kd.int IntKind.i64) y.fst ∧ True → y.fst = idxS x.fst x.snd.fst → decide ((0 : Int) ≤ y.fst) = decide ((0 : Int) ≤ idxS x.fst x.snd.fst)) ∧ True
theorem e27 : t27 = Con.vc c_strings_Contains GL (mkEnv ty [(38, conSem c_strings_Index)] [] [] [0, 1, 4]) {} Try.f27.ntmps Try.f27.results.toList (bodyOf Try.f27) := by kernel_rfl
theorem k27 : t27 := by
  unfold t27
  rintro ⟨l, c, _⟩ hx hp
  try dsimp +instances only [dft_int, dft_sl, dft_str]
  simp only [true_and, and_true, eq_self_iff_true, implies_true, reduceCtorEq, false_implies, true_implies, decide_eq_true_eq, decide_eq_false_iff_not, beq_self_eq_true, Bool.not_eq_true', ne_eq, Decidable.not_not, List.nil_append, List.length_singleton, List.length_cons, List.length_nil, Nat.zero_add, Nat.add_zero, Nat.mul_one, and_self, beq_iff_eq, Bool.not_true, Bool.not_false, Bool.not_eq_false', Bool.cond_false_right, Bool.and_eq_true, imp_self, Bool.not_eq_true, Bool.cond_true_left, Bool.or_eq_true]
  refine ⟨hp, ?_⟩
  rintro ⟨a, _⟩ _ ea
  exact congrArg (fun a : Int => decide (0 ≤ a)) ea
theorem h27 : c_strings_Contains.ok Try.prog GL 27 := con_ok (H := {}) (mkEnv_ok (gl := GL) (l := [(38, conSem c_strings_Index)]) (q := []) (d := []) _ tyOk (by kernel_rfl) ⟨h38.call, trivial⟩ trivial trivial) (by kernel_rfl) (by kernel_rfl) (Eq.mp e27 k27)

def t39 : Prop :=
  ∀ (x : List Int × List Int × Unit),
    Kd.wf Kd.str x.fst ∧ Kd.wf Kd.str x.snd.fst ∧ True →
      List.length x.fst < (4294967281 : Nat) ∧ List.length x.snd.fst = (1 : Nat) →
        List.length x.fst < (4294967281 : Nat) ∧
          (∀ (y : Int × Unit),
              Kd.wf (Kd.int IntKind.i64) y.fst ∧ True →
                y.fst = idxS x.fst x.snd.fst →
                  (decide ((0 : Int) ≤ y.fst) = true →
                      ((0 : Int) ≤ y.fst ∧ y.fst ≤ (↑(List.length x.fst) : Int)) ∧
                        ((0 : Int) ≤ IntKind.wrap IntKind.i64 (y.fst + (↑(List.length x.snd.fst) : Int)) ∧
                            IntKind.wrap IntKind.i64 (y.fst + (↑(List.length x.snd.fst) : Int)) ≤ (↑(List.length x.fst) : Int)) ∧
                          List.take (Int.toNat y.fst) x.fst = (cutD (List.getD x.snd.fst (0 : Nat) (0 : Int)) x.fst).fst ∧
                            List.drop (Int.toNat (IntKind.wrap IntKind.i64 (y.fst + (↑(List.length x.snd.fst) : Int)))) x.fst = (cutD (List.getD x.snd.fst (0 : Nat) (0 : Int)) x.fst).snd.fst ∧
                              true = (cutD (List.getD x.snd.fst (0 : Nat) (0 : Int)) x.fst).snd.snd) ∧
                    (decide ((0 : Int) ≤ y.fst) = false →
                      x.fst = (cutD (List.getD x.snd.fst (0 : Nat) (0 : Int)) x.fst).fst ∧
                        bs { data := #[] } = (cutD (List.getD x.snd.fst (0 : Nat) (0 : Int)) x.fst).snd.fst ∧ false = (cutD (List.getD x.snd.fst (0 : Nat) (0 : Int)) x.fst).snd.snd)) ∧
            True
theorem e39 : t39 = Con.vc c_stringslite_Cut GL (mkEnv ty [(43, conSem c_stringslite_Index)] [] [] [0, 1, 4, 5, 6, 7, 12]) {} Try.f39.ntmps Try.f39.results.toList (bodyOf Try.f39) := by kernel_rfl
theorem k39 : t39 := by
  unfold t39
  rintro ⟨l, c, _⟩ hx hp
  have h1 : l.length < 4294967281 := hp.1
  have h2 : c.length = 1 := hp.2
  try dsimp +instances only [dft_int, dft_sl, dft_str]
  simp only [true_and, and_true, eq_self_iff_true, implies_true, reduceCtorEq, false_implies, true_implies, decide_eq_true_eq, decide_eq_false_iff_not, beq_self_eq_true, Bool.not_eq_true', ne_eq, Decidable.not_not, List.nil_append, List.length_singleton, List.length_cons, List.length_nil, Nat.zero_add, Nat.add_zero, Nat.mul_one, and_self, beq_iff_eq, Bool.not_true, Bool.not_false, Bool.not_eq_false', Bool.cond_false_right, Bool.and_eq_true, imp_self, Bool.not_eq_true, Bool.cond_true_left, Bool.or_eq_true]
  refine ⟨h1, ?_⟩
  rintro ⟨a, _⟩ _ ea
  simp only at ea ⊢
  obtain ⟨d, rfl⟩ : ∃ d, c = [d] := List.length_eq_one_iff.1 h2
  rw [idxS_one] at ea
  have hb := idxB_ge l d
  have hd : ([d] : List Int).getD 0 0 = d := rfl
  rw [hd, cutD_idx]
  have hw : IntKind.wrap .i64 (a + ([d] : List Int).length) = a + 1 := wrapK _ (by simp; omega) (by simp; omega)
  rw [hw, ea]
  refine ⟨fun h => ⟨⟨h, by omega⟩, ⟨by omega, by omega⟩, ?_⟩, fun h => ?_⟩
  · rw [if_pos h, show (idxB l d + 1).toNat = (idxB l d).toNat + 1 by omega]
    exact ⟨rfl, rfl, rfl⟩
  · rw [if_neg h]
    exact ⟨rfl, rfl, rfl⟩
theorem h39 : c_stringslite_Cut.ok Try.prog GL 39 := con_ok (H := {}) (mkEnv_ok (gl := GL) (l := [(43, conSem c_stringslite_Index)]) (q := []) (d := []) _ tyOk (by kernel_rfl) ⟨h43.call, trivial⟩ trivial trivial) (by kernel_rfl) (by kernel_rfl) (Eq.mp e39 k39)

def t28 : Prop :=
  ∀ (x : List Int × List Int × Unit),
    Kd.wf Kd.str x.fst ∧ Kd.wf Kd.str x.snd.fst ∧ True →
      List.length x.fst < (4294967281 : Nat) ∧ List.length x.snd.fst = (1 : Nat) →
        (List.length x.fst < (4294967281 : Nat) ∧ List.length x.snd.fst = (1 : Nat)) ∧
          (∀ (y : List Int × List Int × Bool × Unit),
              Kd.wf Kd.str y.fst ∧ Kd.wf Kd.str y.snd.fst ∧ Kd.wf Kd.bool y.snd.snd.fst ∧ True →
                y.fst = (cutD (List.getD x.snd.fst (0 : Nat) (0 : Int)) x.fst).fst ∧
                    y.snd.fst = (cutD (List.getD x.snd.fst (0 : Nat) (0 : Int)) x.fst).snd.fst ∧ y.snd.snd.fst = (cutD (List.getD x.snd.fst (0 : Nat) (0 : Int)) x.fst).snd.snd →
                  y.fst = (cutD (List.getD x.snd.fst (0 : Nat) (0 : Int)) x.fst).fst ∧
                    y.snd.fst = (cutD (List.getD x.snd.fst (0 : Nat) (0 : Int)) x.fst).snd.fst ∧ y.snd.snd.fst = (cutD (List.getD x.snd.fst (0 : Nat) (0 : Int)) x.fst).snd.snd) ∧
            True
theorem e28 : t28 = Con.vc c_strings_Cut GL (mkEnv ty [(39, conSem c_stringslite_Cut)] [] [] [0, 1, 4, 5, 6]) {} Try.f28.ntmps Try.f28.results.toList (bodyOf Try.f28) := by kernel_rfl
theorem k28 : t28 := by
  unfold t28
  rintro ⟨l, c, _⟩ hx hp
  try dsimp +instances only [dft_int, dft_sl, dft_str]
  simp only [true_and, and_true, eq_self_iff_true, implies_true, reduceCtorEq, false_implies, true_implies, decide_eq_true_eq, decide_eq_false_iff_not, beq_self_eq_true, Bool.not_eq_true', ne_eq, Decidable.not_not, List.nil_append, List.length_singleton, List.length_cons, List.length_nil, Nat.zero_add, Nat.add_zero, Nat.mul_one, and_self, beq_iff_eq, Bool.not_true, Bool.not_false, Bool.not_eq_false', Bool.cond_false_right, Bool.and_eq_true, imp_self, Bool.not_eq_true, Bool.cond_true_left, Bool.or_eq_true]
  exact hp
theorem h28 : c_strings_Cut.ok Try.prog GL 28 := con_ok (H := {}) (mkEnv_ok (gl := GL) (l := [(39, conSem c_stringslite_Cut)]) (q := []) (d := []) _ tyOk (by kernel_rfl) ⟨h39.call, trivial⟩ trivial trivial) (by kernel_rfl) (by kernel_rfl) (Eq.mp e28 k28)

def t42 : Prop :=
  ∀ (x : List Int × List Int × Unit),
    Kd.wf Kd.str x.fst ∧ Kd.wf Kd.str x.snd.fst ∧ True →
      True →
        (decide ((↑(List.length x.snd.fst) : Int) ≤ (↑(List.length x.fst) : Int)) = true → True) ∧
          (decide ((↑(List.length x.snd.fst) : Int) ≤ (↑(List.length x.fst) : Int)) = true → True) ∧
            (decide ((↑(List.length x.snd.fst) : Int) ≤ (↑(List.length x.fst) : Int)) = true → (decide ((↑(List.length x.snd.fst) : Int) ≤ (↑(List.length x.fst) : Int)) == true) = true ∧ True) ∧
              (decide ((↑(List.length x.snd.fst) : Int) ≤ (↑(List.length x.fst) : Int)) = true →
                  (decide ((↑(List.length x.snd.fst) : Int) ≤ (↑(List.length x.fst) : Int)) == true) = true ∧
                    (decide ((↑(List.length x.snd.fst) : Int) ≤ (↑(List.length x.fst) : Int)) == true) = true ∧
                      ((0 : Int) ≤ (↑(List.length x.snd.fst) : Int) ∧ (↑(List.length x.snd.fst) : Int) ≤ (↑(List.length x.fst) : Int)) ∧ True) ∧
                (decide ((↑(List.length x.snd.fst) : Int) ≤ (↑(List.length x.fst) : Int)) = true → True) ∧
                  (decide ((↑(List.length x.snd.fst) : Int) ≤ (↑(List.length x.fst) : Int)) = true →
                      (decide ((↑(List.length x.snd.fst) : Int) ≤ (↑(List.length x.fst) : Int)) == true) = true ∧
                        (decide ((↑(List.length x.snd.fst) : Int) ≤ (↑(List.length x.fst) : Int)) == true) = true ∧ True) ∧
                    (decide ((↑(List.length x.snd.fst) : Int) ≤ (↑(List.length x.fst) : Int)) = true → (decide ((↑(List.length x.snd.fst) : Int) ≤ (↑(List.length x.fst) : Int)) == true) = true) ∧
                      (bif decide ((↑(List.length x.snd.fst) : Int) ≤ (↑(List.length x.fst) : Int)) then decide (List.take (Int.toNat (↑(List.length x.snd.fst) : Int)) x.fst = x.snd.fst) else false) =
                        hasP x.snd.fst x.fst
theorem e42 : t42 = Con.vc c_stringslite_HasPrefix GL (mkEnv ty [] [] [] [0, 1, 4]) {} Try.f42.ntmps Try.f42.results.toList (bodyOf Try.f42) := by kernel_rfl
theorem k42 : t42 := by
  unfold t42
  rintro ⟨l, c, _⟩ hx hp
  try dsimp +instances only [dft_int, dft_sl, dft_str]
  simp only [true_and, and_true, eq_self_iff_true, implies_true, reduceCtorEq, false_implies, true_implies, decide_eq_true_eq, decide_eq_false_iff_not, beq_self_eq_true, Bool.not_eq_true', ne_eq, Decidable.not_not, List.nil_append, List.length_singleton, List.length_cons, List.length_nil, Nat.zero_add, Nat.add_zero, Nat.mul_one, and_self, beq_iff_eq, Bool.not_true, Bool.not_false, Bool.not_eq_false', Bool.cond_false_right, Bool.and_eq_true, imp_self, Bool.not_eq_true, Bool.cond_true_left, Bool.or_eq_true]
  refine ⟨fun h => ⟨h, h, by omega, h⟩, ?_⟩
  rw [Int.toNat_natCast, hasP]
  by_cases h : l.take c.length = c
  · have := congrArg List.length h
    rw [List.length_take] at this
    rw [decide_eq_true h, decide_eq_true (by omega)]; rfl
  · rw [decide_eq_false h, Bool.and_false]
theorem h42 : c_stringslite_HasPrefix.ok Try.prog GL 42 := con_ok (H := {}) (mkEnv_ok (gl := GL) (l := []) (q := []) (d := []) _ tyOk (by kernel_rfl) trivial trivial trivial) (by kernel_rfl) (by kernel_rfl) (Eq.mp e42 k42)

def t37 : Prop :=
  ∀ (x : List Int × List Int × Unit),
    Kd.wf Kd.str x.fst ∧ Kd.wf Kd.str x.snd.fst ∧ True →
      True →
        True ∧
          (∀ (y : Bool × Unit),
              Kd.wf Kd.bool y.fst ∧ True →
                y.fst = hasP x.snd.fst x.fst →
                  ((!y.fst) = true → (x.fst = if hasP x.snd.fst x.fst = true then List.drop (List.length x.snd.fst) x.fst else x.fst) ∧ false = hasP x.snd.fst x.fst) ∧
                    ((!y.fst) = false →
                      ((0 : Int) ≤ (↑(List.length x.snd.fst) : Int) ∧ (↑(List.length x.snd.fst) : Int) ≤ (↑(List.length x.fst) : Int)) ∧
                        (List.drop (Int.toNat (↑(List.length x.snd.fst) : Int)) x.fst = if hasP x.snd.fst x.fst = true then List.drop (List.length x.snd.fst) x.fst else x.fst) ∧
                          true = hasP x.snd.fst x.fst)) ∧
            True
theorem e37 : t37 = Con.vc c_stringslite_CutPrefix GL (mkEnv ty [(42, conSem c_stringslite_HasPrefix)] [] [] [0, 1, 4, 5, 9]) {} Try.f37.ntmps Try.f37.results.toList (bodyOf Try.f37) := by kernel_rfl
theorem k37 : t37 := by
  unfold t37
  rintro ⟨l, c, _⟩ hx hp
  try dsimp +instances only [dft_int, dft_sl, dft_str]
  simp only [true_and, and_true, eq_self_iff_true, implies_true, reduceCtorEq, false_implies, true_implies, decide_eq_true_eq, decide_eq_false_iff_not, beq_self_eq_true, Bool.not_eq_true', ne_eq, Decidable.not_not, List.nil_append, List.length_singleton, List.length_cons, List.length_nil, Nat.zero_add, Nat.add_zero, Nat.mul_one, and_self, beq_iff_eq, Bool.not_true, Bool.not_false, Bool.not_eq_false', Bool.cond_false_right, Bool.and_eq_true, imp_self, Bool.not_eq_true, Bool.cond_true_left, Bool.or_eq_true]
  rintro ⟨a, _⟩ _ ea
  simp only at ea ⊢
  refine ⟨fun h => ?_, fun h => ?_⟩
  · rw [← ea, h]
    exact ⟨rfl, rfl⟩
  · have hq := ea.symm.trans h
    rw [← ea, h]
    unfold hasP at hq
    have := congrArg List.length (of_decide_eq_true hq)
    rw [List.length_take] at this
    exact ⟨⟨by omega, by omega⟩, rfl, rfl⟩
theorem h37 : c_stringslite_CutPrefix.ok Try.prog GL 37 := con_ok (H := {}) (mkEnv_ok (gl := GL) (l := [(42, conSem c_stringslite_HasPrefix)]) (q := []) (d := []) _ tyOk (by kernel_rfl) ⟨h42.call, trivial⟩ trivial trivial) (by kernel_rfl) (by kernel_rfl) (Eq.mp e37 k37)

def t26 : Prop :=
  ∀ (x : List Int × List Int × Unit),
    Kd.wf Kd.str x.fst ∧ Kd.wf Kd.str x.snd.fst ∧ True →
      True →
        True ∧
          (∀ (y : List Int × Bool × Unit),
              Kd.wf Kd.str y.fst ∧ Kd.wf Kd.bool y.snd.fst ∧ True →
                (y.fst = if hasP x.snd.fst x.fst = true then List.drop (List.length x.snd.fst) x.fst else x.fst) ∧ y.snd.fst = hasP x.snd.fst x.fst →
                  (y.fst = if hasP x.snd.fst x.fst = true then List.drop (List.length x.snd.fst) x.fst else x.fst) ∧ y.snd.fst = hasP x.snd.fst x.fst) ∧
            True
theorem e26 : t26 = Con.vc c_strings_CutPrefix GL (mkEnv ty [(37, conSem c_stringslite_CutPrefix)] [] [] [0, 1, 4, 5]) {} Try.f26.ntmps Try.f26.results.toList (bodyOf Try.f26) := by kernel_rfl
theorem k26 : t26 := by
  unfold t26
  rintro ⟨l, c, _⟩ hx hp
  try dsimp +instances only [dft_int, dft_sl, dft_str]
  simp only [true_and, and_true, eq_self_iff_true, implies_true, reduceCtorEq, false_implies, true_implies, decide_eq_true_eq, decide_eq_false_iff_not, beq_self_eq_true, Bool.not_eq_true', ne_eq, Decidable.not_not, List.nil_append, List.length_singleton, List.length_cons, List.length_nil, Nat.zero_add, Nat.add_zero, Nat.mul_one, and_self, beq_iff_eq, Bool.not_true, Bool.not_false, Bool.not_eq_false', Bool.cond_false_right, Bool.and_eq_true, imp_self, Bool.not_eq_true, Bool.cond_true_left, Bool.or_eq_true]
theorem h26 : c_strings_CutPrefix.ok Try.prog GL 26 := con_ok (H := {}) (mkEnv_ok (gl := GL) (l := [(37, conSem c_stringslite_CutPrefix)]) (q := []) (d := []) _ tyOk (by kernel_rfl) ⟨h37.call, trivial⟩ trivial trivial) (by kernel_rfl) (by kernel_rfl) (Eq.mp e26 k26)

end Go.Proofs.Ytlpbhgcndebkcaa
