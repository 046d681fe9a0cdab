/- Walks. -/
import Derived.Test.YtlpbhgcndebkcaaZLaw13mA
set_option linter.unusedVariables false
set_option linter.unusedSimpArgs false
namespace Go.Proofs.Ytlpbhgcndebkcaa
open Go Go.Vc Go.Pl Go.Proofs
set_option linter.unusedVariables false
set_option linter.unusedSimpArgs false
def t19 : Prop :=
  ∀ (x : Unit),
    True →
      True →
        (3 : Nat) ≤ (1000000000 : Nat) ∧
          (∀ (y : Bool × Unit),
              Kd.wf Kd.bool y.fst ∧ True →
                y.fst = dnsD (bs { data := #[(97 : UInt8), (46 : UInt8), (98 : UInt8)] }) →
                  (y.fst = true → (0 : Nat) ≤ (1000000000 : Nat) ∧ (∀ (y : Bool × Unit), Kd.wf Kd.bool y.fst ∧ True → y.fst = dnsD (bs { data := #[] }) → (!y.fst) = true) ∧ True) ∧
                    (y.fst = !true → false = true)) ∧
            True
theorem e19 : t19 = Con.vc c_law13_there GL (mkEnv ty [(7, conSem c_host_DNS)] [] [] [0]) {} Try.f19.ntmps Try.f19.results.toList (bodyOf Try.f19) := by kernel_rfl
theorem k19 : t19 := by
  unfold t19
  rintro _ hx hp
  try dsimp +instances only [dft_int, dft_sl, dft_str]
  simp only [true_and, and_true, eq_self_iff_true, implies_true, reduceCtorEq, false_implies, true_implies, decide_eq_true_eq, decide_eq_false_iff_not, beq_self_eq_true, Bool.not_eq_true', ne_eq, Decidable.not_not, List.nil_append, List.length_singleton, List.length_cons, List.length_nil, Nat.zero_add, Nat.add_zero, Nat.mul_one, and_self, beq_iff_eq, Bool.not_true, Bool.not_false, Bool.not_eq_false', Bool.cond_false_right, Bool.and_eq_true, imp_self, Bool.not_eq_true, Bool.cond_true_left, Bool.or_eq_true]
  have b1 : bs { data := #[97, 46, 98] } = [97, 46, 98] := by decide
  have d1 : dnsD [97, 46, 98] = true := by decide
  have d2 : dnsD [] = false := by decide
  rw [b1, bs_nil, d1, d2]
  refine ⟨by decide, ?_⟩
  rintro ⟨a, _⟩ _ ea
  refine ⟨fun _ => ⟨by decide, ?_⟩, fun h => by rw [show a = true from ea] at h; cases h⟩
  rintro ⟨b, _⟩ _ eb
  exact eb
theorem h19 : c_law13_there.ok Try.prog GL 19 := con_ok (H := {}) (mkEnv_ok (gl := GL) (l := [(7, conSem c_host_DNS)]) (q := []) (d := []) _ tyOk (by kernel_rfl) ⟨h7.call, trivial⟩ trivial trivial) (by kernel_rfl) (by kernel_rfl) (Eq.mp e19 k19)

def t6 : Prop :=
  ∀ (x : List Int × List Int × Unit),
    Kd.wf Kd.str x.fst ∧ Kd.wf Kd.str x.snd.fst ∧ True →
      ABulk [AK.dat Kd.str, AK.dat Kd.str] x ≤ (1048576 : Nat) →
        (List.length x.fst ≤ (1000000000 : Nat) ∧ List.length x.snd.fst ≤ (1000000000 : Nat)) ∧
          (∀ (y : Bool × Unit),
              Kd.wf Kd.bool y.fst ∧ True →
                y.fst = matchD x.fst x.snd.fst →
                  (List.length x.fst ≤ (1000000000 : Nat) ∧ List.length x.snd.fst ≤ (1000000000 : Nat)) ∧
                    (∀ (y_1 : Bool × Unit),
                        Kd.wf Kd.bool y_1.fst ∧ True →
                          y_1.fst = matchD x.fst x.snd.fst →
                            (decide (y.fst = y_1.fst) = true →
                                ((5 : Nat) ≤ (1000000000 : Nat) ∧ (5 : Nat) ≤ (1000000000 : Nat)) ∧
                                  (∀ (y : Bool × Unit),
                                      Kd.wf Kd.bool y.fst ∧ True →
                                        y.fst =
                                            matchD (bs { data := #[(42 : UInt8), (46 : UInt8), (97 : UInt8), (46 : UInt8), (98 : UInt8)] })
                                              (bs { data := #[(120 : UInt8), (46 : UInt8), (97 : UInt8), (46 : UInt8), (98 : UInt8)] }) →
                                          (y.fst = true → True ∧ (∀ (y : Bool × Unit), Kd.wf Kd.bool y.fst ∧ True → y.fst = true → y.fst = true) ∧ True) ∧ (y.fst = !true → false = true)) ∧
                                    True) ∧
                              (decide (y.fst = y_1.fst) = !true → false = true)) ∧
                      True) ∧
            True
theorem e6 : t6 = Con.vc c_law13_HostMatches GL (mkEnv ty [(18, conSem c_host_Match), (20, conSem c_r13_Match), (15, conSem c_law13_works)] [] [] [0, 1, 4]) {} Try.f6.ntmps Try.f6.results.toList (bodyOf Try.f6) := by kernel_rfl
theorem k6 : t6 := by
  unfold t6
  rintro ⟨l, m, _⟩ hx hp
  have hl : l.length ≤ 1000000000 ∧ m.length ≤ 1000000000 := by
    simp [ABulk, AK.bulk, Kd.bulk, sumOnes] at hp
    omega
  try dsimp +instances only [dft_int, dft_sl, dft_str]
  simp only [true_and, and_true, eq_self_iff_true, implies_true, reduceCtorEq, false_implies, true_implies, decide_eq_true_eq, decide_eq_false_iff_not, beq_self_eq_true, Bool.not_eq_true', ne_eq, Decidable.not_not, List.nil_append, List.length_singleton, List.length_cons, List.length_nil, Nat.zero_add, Nat.add_zero, Nat.mul_one, and_self, beq_iff_eq, Bool.not_true, Bool.not_false, Bool.not_eq_false', Bool.cond_false_right, Bool.and_eq_true, imp_self, Bool.not_eq_true, Bool.cond_true_left, Bool.or_eq_true]
  have b1 : bs { data := #[42, 46, 97, 46, 98] } = [42, 46, 97, 46, 98] := by decide
  have b2 : bs { data := #[120, 46, 97, 46, 98] } = [120, 46, 97, 46, 98] := by decide
  have d1 : matchD [42, 46, 97, 46, 98] [120, 46, 97, 46, 98] = true := by decide
  rw [b1, b2, d1]
  refine ⟨hl, ?_⟩
  rintro ⟨a, _⟩ _ ea
  refine ⟨hl, ?_⟩
  rintro ⟨b, _⟩ _ eb
  simp only at ea eb ⊢
  subst ea eb
  refine ⟨fun _ => ⟨by decide, ?_⟩, fun h => h rfl⟩
  rintro ⟨c, _⟩ _ ec h
  rw [show c = true from ec] at h; cases h
theorem h6 : c_law13_HostMatches.ok Try.prog GL 6 := con_ok (H := {}) (mkEnv_ok (gl := GL) (l := [(18, conSem c_host_Match), (20, conSem c_r13_Match), (15, conSem c_law13_works)]) (q := []) (d := []) _ tyOk (by kernel_rfl) ⟨h18.call, h20.call, h15.call, trivial⟩ trivial trivial) (by kernel_rfl) (by kernel_rfl) (Eq.mp e6 k6)

end Go.Proofs.Ytlpbhgcndebkcaa
