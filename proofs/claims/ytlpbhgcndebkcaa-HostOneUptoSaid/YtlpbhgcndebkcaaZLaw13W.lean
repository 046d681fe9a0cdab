/- Walks. -/
import Derived.Test.YtlpbhgcndebkcaaZLaw13A
set_option linter.unusedVariables false
set_option linter.unusedSimpArgs false
namespace Go.Proofs.Ytlpbhgcndebkcaa
open Go Go.Vc Go.Pl Go.Proofs
set_option linter.unusedVariables false
set_option linter.unusedSimpArgs false
def t31 : Prop :=
  ∀ (x : Unit), True → True → true = true
theorem e31 : t31 = Con.vc c_law13_names GL (mkEnv ty [] [] [] [0]) {} Try.f31.ntmps Try.f31.results.toList (bodyOf Try.f31) := by kernel_rfl
theorem k31 : t31 := by
  unfold t31
  intro _ _ _; rfl
theorem h31 : c_law13_names.ok Try.prog GL 31 := con_ok (H := {}) (mkEnv_ok (gl := GL) (l := []) (q := []) (d := []) _ tyOk (by kernel_rfl) trivial trivial trivial) (by kernel_rfl) (by kernel_rfl) (Eq.mp e31 k31)

def t15 : Prop :=
  ∀ (x : Unit),
    True →
      True →
        (3 : Nat) ≤ (1000000000 : Nat) ∧
          (∀ (y : Bool × Unit),
              Kd.wf Kd.bool y.fst ∧ True →
                y.fst = dnsD (bs { data := #[(97 : UInt8), (46 : UInt8), (98 : UInt8)] }) →
                  (y.fst = true →
                      (5 : Nat) ≤ (1000000000 : Nat) ∧
                        (∀ (y : Bool × Unit),
                            Kd.wf Kd.bool y.fst ∧ True →
                              y.fst = wildD (bs { data := #[(42 : UInt8), (46 : UInt8), (97 : UInt8), (46 : UInt8), (98 : UInt8)] }) →
                                (y.fst = true →
                                    (3 : Nat) ≤ (1000000000 : Nat) ∧
                                      (∀ (y : Bool × Unit),
                                          Kd.wf Kd.bool y.fst ∧ True →
                                            y.fst = emailD (bs { data := #[(97 : UInt8), (64 : UInt8), (98 : UInt8)] }) →
                                              (y.fst = true →
                                                  True ∧
                                                    (∀ (y : Bool × Unit),
                                                        Kd.wf Kd.bool y.fst ∧ True →
                                                          y.fst = ipD (bs { data := #[(49 : UInt8), (50 : UInt8), (51 : UInt8), (52 : UInt8)] }) →
                                                            (y.fst = true → True ∧ (∀ (y : Bool × Unit), Kd.wf Kd.bool y.fst ∧ True → y.fst = true → y.fst = true) ∧ True) ∧
                                                              (y.fst = !true → false = true)) ∧
                                                      True) ∧
                                                (y.fst = !true → false = true)) ∧
                                        True) ∧
                                  (y.fst = !true → false = true)) ∧
                          True) ∧
                    (y.fst = !true → false = true)) ∧
            True
theorem e15 : t15 = Con.vc c_law13_works GL (mkEnv ty [(7, conSem c_host_DNS), (9, conSem c_host_Wild), (11, conSem c_host_Email), (13, conSem c_host_IP), (31, conSem c_law13_names)] [] [] [0]) {} Try.f15.ntmps Try.f15.results.toList (bodyOf Try.f15) := by kernel_rfl
theorem k15 : t15 := by
  unfold t15
  rintro _ hx hp
  try dsimp +instances only [dft_int, dft_sl, dft_str]
  simp only [true_and, and_true, eq_self_iff_true, implies_true, reduceCtorEq, false_implies, true_implies, decide_eq_true_eq, decide_eq_false_iff_not, beq_self_eq_true, Bool.not_eq_true', ne_eq, Decidable.not_not, List.nil_append, List.length_singleton, List.length_cons, List.length_nil, Nat.zero_add, Nat.add_zero, Nat.mul_one, and_self, beq_iff_eq, Bool.not_true, Bool.not_false, Bool.not_eq_false', Bool.cond_false_right, Bool.and_eq_true, imp_self, Bool.not_eq_true, Bool.cond_true_left, Bool.or_eq_true]
  have b1 : bs { data := #[97, 46, 98] } = [97, 46, 98] := by decide
  have b2 : bs { data := #[42, 46, 97, 46, 98] } = [42, 46, 97, 46, 98] := by decide
  have b3 : bs { data := #[97, 64, 98] } = [97, 64, 98] := by decide
  have b4 : bs { data := #[49, 50, 51, 52] } = [49, 50, 51, 52] := by decide
  have d1 : dnsD [97, 46, 98] = true := by decide
  have d2 : wildD [42, 46, 97, 46, 98] = true := by decide
  have d3 : emailD [97, 64, 98] = true := by decide
  have d4 : ipD [49, 50, 51, 52] = true := by decide
  rw [b1, b2, b3, b4, d1, d2, d3, d4]
  refine ⟨by decide, ?_⟩
  rintro ⟨a, _⟩ _ ea
  refine ⟨fun _ => ⟨by decide, ?_⟩, fun h => by rw [show a = true from ea] at h; cases h⟩
  rintro ⟨b, _⟩ _ eb
  refine ⟨fun _ => ⟨by decide, ?_⟩, fun h => by rw [show b = true from eb] at h; cases h⟩
  rintro ⟨c, _⟩ _ ec
  refine ⟨fun _ => ?_, fun h => by rw [show c = true from ec] at h; cases h⟩
  rintro ⟨d, _⟩ _ ed h
  rw [show d = true from ed] at h; cases h
theorem h15 : c_law13_works.ok Try.prog GL 15 := con_ok (H := {}) (mkEnv_ok (gl := GL) (l := [(7, conSem c_host_DNS), (9, conSem c_host_Wild), (11, conSem c_host_Email), (13, conSem c_host_IP), (31, conSem c_law13_names)]) (q := []) (d := []) _ tyOk (by kernel_rfl) ⟨h7.call, h9.call, h11.call, h13.call, h31.call, trivial⟩ trivial trivial) (by kernel_rfl) (by kernel_rfl) (Eq.mp e15 k15)

def t3 : Prop :=
  ∀ (x : List Int × Unit),
    Kd.wf Kd.str x.fst ∧ True →
      ABulk [AK.dat Kd.str] x ≤ (1048576 : Nat) →
        List.length x.fst ≤ (1000000000 : Nat) ∧
          (∀ (y : Bool × Unit),
              Kd.wf Kd.bool y.fst ∧ True →
                y.fst = dnsD x.fst →
                  List.length x.fst ≤ (1000000000 : Nat) ∧
                    (∀ (y_1 : Bool × Unit),
                        Kd.wf Kd.bool y_1.fst ∧ True →
                          y_1.fst = dnsD x.fst →
                            (decide (y.fst = y_1.fst) = true → True) ∧
                              (decide (y.fst = y_1.fst) = true →
                                  (decide (y.fst = y_1.fst) == true) = true ∧
                                    List.length x.fst ≤ (1000000000 : Nat) ∧
                                      (∀ (y : Bool × Unit),
                                          Kd.wf Kd.bool y.fst ∧ True →
                                            y.fst = wildD x.fst →
                                              List.length x.fst ≤ (1000000000 : Nat) ∧
                                                (∀ (y_2 : Bool × Unit),
                                                    Kd.wf Kd.bool y_2.fst ∧ True →
                                                      y_2.fst = wildD x.fst →
                                                        (decide (y.fst = y_2.fst) = true → True) ∧
                                                          (decide (y.fst = y_2.fst) = true →
                                                              (decide (y.fst = y_2.fst) == true) = true ∧
                                                                List.length x.fst ≤ (1000000000 : Nat) ∧
                                                                  (∀ (y : Bool × Unit),
                                                                      Kd.wf Kd.bool y.fst ∧ True →
                                                                        y.fst = emailD x.fst →
                                                                          List.length x.fst ≤ (1000000000 : Nat) ∧
                                                                            (∀ (y_3 : Bool × Unit),
                                                                                Kd.wf Kd.bool y_3.fst ∧ True →
                                                                                  y_3.fst = emailD x.fst →
                                                                                    (decide (y.fst = y_3.fst) = true → True) ∧
                                                                                      (decide (y.fst = y_3.fst) = true →
                                                                                          (decide (y.fst = y_3.fst) == true) = true ∧
                                                                                            True ∧
                                                                                              (∀ (y : Bool × Unit),
                                                                                                  Kd.wf Kd.bool y.fst ∧ True →
                                                                                                    y.fst = ipD x.fst →
                                                                                                      True ∧
                                                                                                        (∀ (y_4 : Bool × Unit),
                                                                                                            Kd.wf Kd.bool y_4.fst ∧ True →
                                                                                                              y_4.fst = ipD x.fst →
                                                                                                                (decide (y.fst = y_4.fst) = true →
                                                                                                                    True ∧
                                                                                                                      (∀ (y : Bool × Unit), Kd.wf Kd.bool y.fst ∧ True → y.fst = true → y.fst = true) ∧
                                                                                                                        True) ∧
                                                                                                                  (decide (y.fst = y_4.fst) = !true → false = true)) ∧
                                                                                                          True) ∧
                                                                                                True) ∧
                                                                                        (decide (y.fst = y_3.fst) = !true → false = true)) ∧
                                                                              True) ∧
                                                                    True) ∧
                                                            (decide (y.fst = y_2.fst) = !true → false = true)) ∧
                                                  True) ∧
                                        True) ∧
                                (decide (y.fst = y_1.fst) = !true → false = true)) ∧
                      True) ∧
            True
theorem e3 : t3 = Con.vc c_law13_HostMays GL (mkEnv ty [(7, conSem c_host_DNS), (8, conSem c_r13_DNS), (9, conSem c_host_Wild), (10, conSem c_r13_Wild), (11, conSem c_host_Email), (12, conSem c_r13_Email), (13, conSem c_host_IP), (14, conSem c_r13_IP), (15, conSem c_law13_works)] [] [] [0, 2]) {} Try.f3.ntmps Try.f3.results.toList (bodyOf Try.f3) := by kernel_rfl
theorem k3 : t3 := by
  unfold t3
  rintro ⟨l, _⟩ hx hp
  have hl : l.length ≤ 1000000000 := by
    simp [ABulk, AK.bulk, Kd.bulk, sumOnes] at hp
    omega
  try dsimp +instances only [dft_int, dft_sl, dft_str]
  simp only [true_and, and_true, eq_self_iff_true, implies_true, reduceCtorEq, false_implies, true_implies, decide_eq_true_eq, decide_eq_false_iff_not, beq_self_eq_true, Bool.not_eq_true', ne_eq, Decidable.not_not, List.nil_append, List.length_singleton, List.length_cons, List.length_nil, Nat.zero_add, Nat.add_zero, Nat.mul_one, and_self, beq_iff_eq, Bool.not_true, Bool.not_false, Bool.not_eq_false', Bool.cond_false_right, Bool.and_eq_true, imp_self, Bool.not_eq_true, Bool.cond_true_left, Bool.or_eq_true]
  refine ⟨hl, ?_⟩
  rintro ⟨a, _⟩ _ ea
  refine ⟨hl, ?_⟩
  rintro ⟨a2, _⟩ _ ea2
  simp only at ea ea2 ⊢
  subst ea ea2
  refine ⟨fun _ => ⟨rfl, hl, ?_⟩, fun h => h rfl⟩
  rintro ⟨b, _⟩ _ eb
  refine ⟨hl, ?_⟩
  rintro ⟨b2, _⟩ _ eb2
  simp only at eb eb2 ⊢
  subst eb eb2
  refine ⟨fun _ => ⟨rfl, hl, ?_⟩, fun h => h rfl⟩
  rintro ⟨c, _⟩ _ ec
  refine ⟨hl, ?_⟩
  rintro ⟨c2, _⟩ _ ec2
  simp only at ec ec2 ⊢
  subst ec ec2
  refine ⟨fun _ => ⟨rfl, ?_⟩, fun h => h rfl⟩
  rintro ⟨d, _⟩ _ ed ⟨d2, _⟩ _ ed2 hne
  exact hne (ed.trans ed2.symm)
theorem h3 : c_law13_HostMays.ok Try.prog GL 3 := con_ok (H := {}) (mkEnv_ok (gl := GL) (l := [(7, conSem c_host_DNS), (8, conSem c_r13_DNS), (9, conSem c_host_Wild), (10, conSem c_r13_Wild), (11, conSem c_host_Email), (12, conSem c_r13_Email), (13, conSem c_host_IP), (14, conSem c_r13_IP), (15, conSem c_law13_works)]) (q := []) (d := []) _ tyOk (by kernel_rfl) ⟨h7.call, h8.call, h9.call, h10.call, h11.call, h12.call, h13.call, h14.call, h15.call, trivial⟩ trivial trivial) (by kernel_rfl) (by kernel_rfl) (Eq.mp e3 k3)

def t4 : Prop :=
  ∀ (x : List Int × Int × Unit),
    Kd.wf Kd.str x.fst ∧ Kd.wf (Kd.int IntKind.i64) x.snd.fst ∧ True →
      ABulk [AK.dat Kd.str, AK.dat (Kd.int IntKind.i64)] x ≤ (1048576 : Nat) →
        List.length [SV.dat (Kd.int IntKind.i64) x.snd.fst] ≤ (65536 : Nat) ∧
          (1 : Nat) ≤ (65536 : Nat) ∧
            List.length [SV.dat Kd.str x.fst] ≤ (65536 : Nat) ∧
              List.length x.fst ≤ (1000000000 : Nat) ∧
                (∀ (y : List (List Int) × Unit),
                    Kd.wf (Kd.sl Kd.str) y.fst ∧ True →
                      y.fst = labelsD x.fst →
                        (1 : Nat) ≤ (65536 : Nat) ∧
                          (1 : Nat) ≤ (65536 : Nat) ∧
                            ∃ (J : Unit → (Int × Unit) × (Bool × Unit) × (List Int × Unit) × List (List Int) × Unit × (Int × Unit) × Unit → Prop),
                              ((List.length x.fst < (4294967281 : Nat) ∧ List.length (bs { data := #[(46 : UInt8)] }) = (1 : Nat)) ∧
                                  (∀ (y_1 : List Int × List Int × Bool × Unit),
                                      Kd.wf Kd.str y_1.fst ∧ Kd.wf Kd.str y_1.snd.fst ∧ Kd.wf Kd.bool y_1.snd.snd.fst ∧ True →
                                        y_1.fst = (cutD (List.getD (bs { data := #[(46 : UInt8)] }) (0 : Nat) (0 : Int)) x.fst).fst ∧
                                            y_1.snd.fst = (cutD (List.getD (bs { data := #[(46 : UInt8)] }) (0 : Nat) (0 : Int)) x.fst).snd.fst ∧
                                              y_1.snd.snd.fst = (cutD (List.getD (bs { data := #[(46 : UInt8)] }) (0 : Nat) (0 : Int)) x.fst).snd.snd →
                                          ∃ (I : Bool × List Int × List Int × Unit → (Int × Unit) × (Bool × Unit) × (List Int × Unit) × List (List Int) × Unit × (Int × Unit) × Unit → Prop),
                                            ∃ (μ : Bool × List Int × List Int × Unit → (Int × Unit) × (Bool × Unit) × (List Int × Unit) × List (List Int) × Unit × (Int × Unit) × Unit → Nat),
                                              (Value.bool false = Value.bool false ∧
                                                  x.fst = x.fst ∧
                                                    x.snd.fst = x.snd.fst ∧ I (y_1.snd.snd.fst, y_1.snd.fst, y_1.fst, ()) ((x.snd.fst, ()), (false, ()), (x.fst, ()), y.fst, (), ((0 : Int), ()), ())) ∧
                                                ∀ (y : Bool × List Int × List Int × Unit) (z : (Int × Unit) × (Bool × Unit) × (List Int × Unit) × List (List Int) × Unit × (Int × Unit) × Unit),
                                                  Kd.wf Kd.bool y.fst ∧ Kd.wf Kd.str y.snd.fst ∧ Kd.wf Kd.str y.snd.snd.fst ∧ True →
                                                    (Kd.wf (Kd.int IntKind.i64) z.fst.fst ∧ True) ∧
                                                        (Kd.wf Kd.bool z.snd.fst.fst ∧ True) ∧
                                                          (Kd.wf Kd.str z.snd.snd.fst.fst ∧ True) ∧
                                                            Kd.wf (Kd.sl Kd.str) z.snd.snd.snd.fst ∧ True ∧ (Kd.wf (Kd.int IntKind.i64) z.snd.snd.snd.snd.snd.fst.fst ∧ True) ∧ True →
                                                      I y z →
                                                        (decide (z.snd.snd.snd.snd.snd.fst.fst = z.fst.fst) = true →
                                                            Value.bool false = Value.bool false ∧
                                                              x.fst = x.fst ∧
                                                                x.snd.fst = x.snd.fst ∧
                                                                  J () ((z.fst.fst, ()), (z.snd.fst.fst, ()), (z.snd.snd.fst.fst, ()), z.snd.snd.snd.fst, (), (z.snd.snd.snd.snd.snd.fst.fst, ()), ())) ∧
                                                          (decide (z.snd.snd.snd.snd.snd.fst.fst = z.fst.fst) = false →
                                                            (y.fst = true →
                                                                (List.length y.snd.fst < (4294967281 : Nat) ∧ List.length (bs { data := #[(46 : UInt8)] }) = (1 : Nat)) ∧
                                                                  (∀ (y_2 : List Int × List Int × Bool × Unit),
                                                                      Kd.wf Kd.str y_2.fst ∧ Kd.wf Kd.str y_2.snd.fst ∧ Kd.wf Kd.bool y_2.snd.snd.fst ∧ True →
                                                                        y_2.fst = (cutD (List.getD (bs { data := #[(46 : UInt8)] }) (0 : Nat) (0 : Int)) y.snd.fst).fst ∧
                                                                            y_2.snd.fst = (cutD (List.getD (bs { data := #[(46 : UInt8)] }) (0 : Nat) (0 : Int)) y.snd.fst).snd.fst ∧
                                                                              y_2.snd.snd.fst = (cutD (List.getD (bs { data := #[(46 : UInt8)] }) (0 : Nat) (0 : Int)) y.snd.fst).snd.snd →
                                                                          Value.bool false = Value.bool false ∧
                                                                            x.fst = x.fst ∧
                                                                              x.snd.fst = x.snd.fst ∧
                                                                                I (y_2.snd.snd.fst, y_2.snd.fst, y_2.fst, ())
                                                                                    ((z.fst.fst, ()), (z.snd.fst.fst, ()), (z.snd.snd.fst.fst, ()), z.snd.snd.snd.fst, (),
                                                                                      (IntKind.wrap IntKind.i64 (z.snd.snd.snd.snd.snd.fst.fst + (1 : Int)), ()), ()) ∧
                                                                                  μ (y_2.snd.snd.fst, y_2.snd.fst, y_2.fst, ())
                                                                                      ((z.fst.fst, ()), (z.snd.fst.fst, ()), (z.snd.snd.fst.fst, ()), z.snd.snd.snd.fst, (),
                                                                                        (IntKind.wrap IntKind.i64 (z.snd.snd.snd.snd.snd.fst.fst + (1 : Int)), ()), ()) <
                                                                                    μ y z) ∧
                                                                    True) ∧
                                                              (y.fst = false →
                                                                Value.bool false = Value.bool false ∧
                                                                  x.fst = x.fst ∧
                                                                    x.snd.fst = x.snd.fst ∧
                                                                      J ()
                                                                        ((z.fst.fst, ()), (z.snd.fst.fst, ()), (z.snd.snd.fst.fst, ()), z.snd.snd.snd.fst, (),
                                                                          (IntKind.wrap IntKind.i64 (z.snd.snd.snd.snd.snd.fst.fst + (1 : Int)), ()), ())))) ∧
                                    True) ∧
                                ∀ (u : Unit) (z : (Int × Unit) × (Bool × Unit) × (List Int × Unit) × List (List Int) × Unit × (Int × Unit) × Unit),
                                  True →
                                    (Kd.wf (Kd.int IntKind.i64) z.fst.fst ∧ True) ∧
                                        (Kd.wf Kd.bool z.snd.fst.fst ∧ True) ∧
                                          (Kd.wf Kd.str z.snd.snd.fst.fst ∧ True) ∧
                                            Kd.wf (Kd.sl Kd.str) z.snd.snd.snd.fst ∧ True ∧ (Kd.wf (Kd.int IntKind.i64) z.snd.snd.snd.snd.snd.fst.fst ∧ True) ∧ True →
                                      J u z →
                                        (List.length z.snd.snd.fst.fst < (4294967281 : Nat) ∧ List.length (bs { data := #[(46 : UInt8)] }) = (1 : Nat)) ∧
                                          (∀ (y : List Int × List Int × Bool × Unit),
                                              Kd.wf Kd.str y.fst ∧ Kd.wf Kd.str y.snd.fst ∧ Kd.wf Kd.bool y.snd.snd.fst ∧ True →
                                                y.fst = (cutD (List.getD (bs { data := #[(46 : UInt8)] }) (0 : Nat) (0 : Int)) z.snd.snd.fst.fst).fst ∧
                                                    y.snd.fst = (cutD (List.getD (bs { data := #[(46 : UInt8)] }) (0 : Nat) (0 : Int)) z.snd.snd.fst.fst).snd.fst ∧
                                                      y.snd.snd.fst = (cutD (List.getD (bs { data := #[(46 : UInt8)] }) (0 : Nat) (0 : Int)) z.snd.snd.fst.fst).snd.snd →
                                                  ∃ (I :
                                                    Bool × List Int × List Int × Unit → (Int × Unit) × (Bool × Unit) × (List Int × Unit) × List (List Int) × Unit × (Int × Unit) × Unit → Prop),
                                                    ∃ (μ :
                                                      Bool × List Int × List Int × Unit → (Int × Unit) × (Bool × Unit) × (List Int × Unit) × List (List Int) × Unit × (Int × Unit) × Unit → Nat),
                                                      (Value.bool false = Value.bool false ∧
                                                          x.fst = x.fst ∧
                                                            x.snd.fst = x.snd.fst ∧
                                                              I (y.snd.snd.fst, y.snd.fst, y.fst, ())
                                                                ((z.fst.fst, ()), (z.snd.fst.fst, ()), (z.snd.snd.fst.fst, ()), z.snd.snd.snd.fst, (), ((0 : Int), ()), ())) ∧
                                                        ∀ (y : Bool × List Int × List Int × Unit)
                                                          (z : (Int × Unit) × (Bool × Unit) × (List Int × Unit) × List (List Int) × Unit × (Int × Unit) × Unit),
                                                          Kd.wf Kd.bool y.fst ∧ Kd.wf Kd.str y.snd.fst ∧ Kd.wf Kd.str y.snd.snd.fst ∧ True →
                                                            (Kd.wf (Kd.int IntKind.i64) z.fst.fst ∧ True) ∧
                                                                (Kd.wf Kd.bool z.snd.fst.fst ∧ True) ∧
                                                                  (Kd.wf Kd.str z.snd.snd.fst.fst ∧ True) ∧
                                                                    Kd.wf (Kd.sl Kd.str) z.snd.snd.snd.fst ∧ True ∧ (Kd.wf (Kd.int IntKind.i64) z.snd.snd.snd.snd.snd.fst.fst ∧ True) ∧ True →
                                                              I y z →
                                                                (decide ((↑(List.length z.snd.snd.snd.fst) : Int) ≤ z.snd.snd.snd.snd.snd.fst.fst) = false → True) ∧
                                                                  (decide ((↑(List.length z.snd.snd.snd.fst) : Int) ≤ z.snd.snd.snd.snd.snd.fst.fst) = false → True) ∧
                                                                    (decide ((↑(List.length z.snd.snd.snd.fst) : Int) ≤ z.snd.snd.snd.snd.snd.fst.fst) = false → True) ∧
                                                                      (decide ((↑(List.length z.snd.snd.snd.fst) : Int) ≤ z.snd.snd.snd.snd.snd.fst.fst) = false →
                                                                          (decide ((↑(List.length z.snd.snd.snd.fst) : Int) ≤ z.snd.snd.snd.snd.snd.fst.fst) == false) = true ∧
                                                                            (decide ((↑(List.length z.snd.snd.snd.fst) : Int) ≤ z.snd.snd.snd.snd.snd.fst.fst) == false) = true ∧
                                                                              ((0 : Int) ≤ z.snd.snd.snd.snd.snd.fst.fst ∧ z.snd.snd.snd.snd.snd.fst.fst < (↑(List.length z.snd.snd.snd.fst) : Int)) ∧
                                                                                True) ∧
                                                                        (decide ((↑(List.length z.snd.snd.snd.fst) : Int) ≤ z.snd.snd.snd.snd.snd.fst.fst) = false →
                                                                            (decide ((↑(List.length z.snd.snd.snd.fst) : Int) ≤ z.snd.snd.snd.snd.snd.fst.fst) == false) = true ∧ True) ∧
                                                                          (decide ((↑(List.length z.snd.snd.snd.fst) : Int) ≤ z.snd.snd.snd.snd.snd.fst.fst) = false →
                                                                              (decide ((↑(List.length z.snd.snd.snd.fst) : Int) ≤ z.snd.snd.snd.snd.snd.fst.fst) == false) = true ∧
                                                                                (decide ((↑(List.length z.snd.snd.snd.fst) : Int) ≤ z.snd.snd.snd.snd.snd.fst.fst) == false) = true ∧ True) ∧
                                                                            (decide ((↑(List.length z.snd.snd.snd.fst) : Int) ≤ z.snd.snd.snd.snd.snd.fst.fst) = false →
                                                                                (decide ((↑(List.length z.snd.snd.snd.fst) : Int) ≤ z.snd.snd.snd.snd.snd.fst.fst) == false) = true) ∧
                                                                              ((bif decide ((↑(List.length z.snd.snd.snd.fst) : Int) ≤ z.snd.snd.snd.snd.snd.fst.fst) then true
                                                                                    else decide (y.snd.snd.fst ≠ List.getD z.snd.snd.snd.fst (Int.toNat z.snd.snd.snd.snd.snd.fst.fst) (Kd.dft Kd.str))) =
                                                                                    true →
                                                                                  false = true) ∧
                                                                                ((bif decide ((↑(List.length z.snd.snd.snd.fst) : Int) ≤ z.snd.snd.snd.snd.snd.fst.fst) then true
                                                                                    else decide (y.snd.snd.fst ≠ List.getD z.snd.snd.snd.fst (Int.toNat z.snd.snd.snd.snd.snd.fst.fst) (Kd.dft Kd.str))) =
                                                                                    false →
                                                                                  (y.fst = true →
                                                                                      (List.length y.snd.fst < (4294967281 : Nat) ∧ List.length (bs { data := #[(46 : UInt8)] }) = (1 : Nat)) ∧
                                                                                        (∀ (y_1 : List Int × List Int × Bool × Unit),
                                                                                            Kd.wf Kd.str y_1.fst ∧ Kd.wf Kd.str y_1.snd.fst ∧ Kd.wf Kd.bool y_1.snd.snd.fst ∧ True →
                                                                                              y_1.fst = (cutD (List.getD (bs { data := #[(46 : UInt8)] }) (0 : Nat) (0 : Int)) y.snd.fst).fst ∧
                                                                                                  y_1.snd.fst =
                                                                                                      (cutD (List.getD (bs { data := #[(46 : UInt8)] }) (0 : Nat) (0 : Int)) y.snd.fst).snd.fst ∧
                                                                                                    y_1.snd.snd.fst =
                                                                                                      (cutD (List.getD (bs { data := #[(46 : UInt8)] }) (0 : Nat) (0 : Int)) y.snd.fst).snd.snd →
                                                                                                Value.bool false = Value.bool false ∧
                                                                                                  x.fst = x.fst ∧
                                                                                                    x.snd.fst = x.snd.fst ∧
                                                                                                      I (y_1.snd.snd.fst, y_1.snd.fst, y_1.fst, ())
                                                                                                          ((z.fst.fst, ()), (z.snd.fst.fst, ()), (z.snd.snd.fst.fst, ()), z.snd.snd.snd.fst, (),
                                                                                                            (IntKind.wrap IntKind.i64 (z.snd.snd.snd.snd.snd.fst.fst + (1 : Int)), ()), ()) ∧
                                                                                                        μ (y_1.snd.snd.fst, y_1.snd.fst, y_1.fst, ())
                                                                                                            ((z.fst.fst, ()), (z.snd.fst.fst, ()), (z.snd.snd.fst.fst, ()), z.snd.snd.snd.fst, (),
                                                                                                              (IntKind.wrap IntKind.i64 (z.snd.snd.snd.snd.snd.fst.fst + (1 : Int)), ()), ()) <
                                                                                                          μ y z) ∧
                                                                                          True) ∧
                                                                                    (y.fst = false →
                                                                                      (decide
                                                                                              (IntKind.wrap IntKind.i64 (z.snd.snd.snd.snd.snd.fst.fst + (1 : Int)) =
                                                                                                (↑(List.length z.snd.snd.snd.fst) : Int)) =
                                                                                            true →
                                                                                          True ∧ (∀ (y : Bool × Unit), Kd.wf Kd.bool y.fst ∧ True → y.fst = true → y.fst = true) ∧ True) ∧
                                                                                        (decide
                                                                                              (IntKind.wrap IntKind.i64 (z.snd.snd.snd.snd.snd.fst.fst + (1 : Int)) =
                                                                                                (↑(List.length z.snd.snd.snd.fst) : Int)) =
                                                                                            !true →
                                                                                          false = true)))) ∧
                                            True) ∧
                  True
theorem e4 : t4 = Con.vc c_law13_HostLabels GL (mkEnv ty [(16, i16), (17, conSem c_r13_Labels), (15, conSem c_law13_works)] [(32, i32)] [] [0, 1, 3, 4, 5, 6, 7, 8, 12, 15, 19, 22, 23, 35]) {joins := [9]} Try.f4.ntmps Try.f4.results.toList (bodyOf Try.f4) := by kernel_rfl
theorem k4 : t4 := by
  unfold t4
  rintro ⟨l, lv, _⟩ hx hp
  have hl : l.length ≤ 1100000 := by
    simp [ABulk, AK.bulk, Kd.bulk, sumOnes] at hp
    omega
  try dsimp +instances only [dft_int, dft_sl, dft_str]
  simp only [true_and, and_true, eq_self_iff_true, implies_true, reduceCtorEq, false_implies, true_implies, decide_eq_true_eq, decide_eq_false_iff_not, beq_self_eq_true, Bool.not_eq_true', ne_eq, Decidable.not_not, List.nil_append, List.length_singleton, List.length_cons, List.length_nil, Nat.zero_add, Nat.add_zero, Nat.mul_one, and_self, beq_iff_eq, Bool.not_true, Bool.not_false, Bool.not_eq_false', Bool.cond_false_right, Bool.and_eq_true, imp_self, Bool.not_eq_true, Bool.cond_true_left, Bool.or_eq_true]
  have hb : bs { data := #[46] } = [46] := by decide
  have hd : ([46] : List Int).getD 0 0 = 46 := rfl
  rw [hb, hd]
  refine ⟨by decide, by decide, by decide, by omega, ?_⟩
  rintro ⟨W, _⟩ _ eW
  simp only at eW ⊢
  refine ⟨by decide, by decide, fun _ z => z.2.2.1.1 = l ∧ z.2.2.2.1 = W, ⟨⟨by omega, rfl⟩, ?_⟩, ?_⟩
  · rintro ⟨w, re, mo, _⟩ _ ⟨e1, e2, e3⟩
    simp only at e1 e2 e3 ⊢
    have hj := congrArg List.length (cutD_join l 46)
    rw [← e1, ← e2, ← e3] at hj
    have hcl := cutD_len l 46
    rw [← e1, ← e2] at hcl
    refine ⟨fun y z => y.2.1.length ≤ l.length ∧ z.2.2.1.1 = l ∧ z.2.2.2.1 = W ∧ 0 ≤ z.2.2.2.2.2.1.1 ∧ z.2.2.2.2.2.1.1 + (if y.1 then (y.2.1.length : Int) + 1 else 0) ≤ l.length + 1, fun y _ => if y.1 then y.2.1.length + 1 else 0, ⟨hcl.2, rfl, rfl, Int.le_refl 0, ?_⟩, ?_⟩
    · simp only
      split
      · omega
      · omega
    rintro ⟨mo, re, w, _⟩ ⟨⟨a1, _⟩, ⟨a2, _⟩, ⟨m, _⟩, V, _, ⟨n, _⟩, _⟩ _ _ ⟨w1, em, eV, n0, n1⟩
    simp only at w1 em eV n0 n1 ⊢
    refine ⟨fun _ => ⟨em, eV⟩, fun _ => ⟨fun hm => ⟨⟨by omega, rfl⟩, ?_⟩, fun _ => ⟨em, eV⟩⟩⟩
    rintro ⟨w', re', mo', _⟩ _ ⟨f1, f2, f3⟩
    simp only at f1 f2 f3 ⊢
    have hcl := cutD_len re 46
    have hj := congrArg List.length (cutD_join re 46)
    rw [← f1, ← f2, ← f3] at hj
    rw [← f1, ← f2] at hcl
    rw [hm] at n1 ⊢
    simp only [if_true] at n1 ⊢
    have hw1 : IntKind.wrap .i64 (n + 1) = n + 1 := wrapK _ (by omega) (by omega)
    rw [hw1]
    refine ⟨⟨by omega, em, eV, by omega, ?_⟩, ?_⟩
    · split
      · rename_i hmo
        rw [hmo] at hj
        simp at hj
        omega
      · omega
    · split
      · rename_i hmo
        rw [hmo] at hj
        simp at hj
        omega
      · omega
  · rintro _ ⟨⟨a1, _⟩, ⟨a2, _⟩, ⟨m, _⟩, V, _, ⟨n, _⟩, _⟩ _ ⟨em, eV⟩
    simp only at em eV ⊢
    subst em eV
    refine ⟨⟨by omega, rfl⟩, ?_⟩
    rintro ⟨w, re, mo, _⟩ _ ⟨e1, e2, e3⟩
    simp only at e1 e2 e3 ⊢
    have hj := congrArg List.length (cutD_join m 46)
    have hcut := labels_cut m
    rw [← e1, ← e2, ← e3] at hj hcut
    have hcl := cutD_len m 46
    rw [← e1, ← e2] at hcl
    refine ⟨fun y z => y.2.1.length ≤ m.length ∧ z.2.2.1.1 = m ∧ z.2.2.2.1 = V ∧ 0 ≤ z.2.2.2.2.2.1.1 ∧ z.2.2.2.2.2.1.1 + (if y.1 then (y.2.1.length : Int) + 1 else 0) ≤ m.length + 1 ∧ V.drop z.2.2.2.2.2.1.1.toNat = y.2.2.1 :: (if y.1 then labelsD y.2.1 else []), fun y _ => if y.1 then y.2.1.length + 1 else 0, ⟨hcl.2, rfl, rfl, Int.le_refl 0, ?_, ?_⟩, ?_⟩
    · simp only
      split
      · omega
      · omega
    · rw [eW, ← hcut]; rfl
    rintro ⟨mo, re, w, _⟩ ⟨⟨a1, _⟩, ⟨a2, _⟩, ⟨m2, _⟩, V2, _, ⟨n, _⟩, _⟩ _ _ ⟨w1, em, eV, n0, n1, hW⟩
    simp only at w1 em eV n0 n1 hW ⊢
    subst em eV
    obtain ⟨g1, g2, g3⟩ := drop_head [] hW
    have hw1 : IntKind.wrap .i64 (n + 1) = n + 1 := wrapK _ (by split at n1 <;> omega) (by split at n1 <;> omega)
    rw [hw1, g2]
    refine ⟨fun h => ⟨h, h, n0, by omega⟩, fun h => ?_, fun h => ⟨fun hm => ⟨⟨by omega, rfl⟩, ?_⟩, fun hm hne => ?_⟩⟩
    · rcases h with h | h
      · omega
      · exact h rfl
    · rintro ⟨w', re', mo', _⟩ _ ⟨f1, f2, f3⟩
      simp only at f1 f2 f3 ⊢
      have hcl := cutD_len re 46
      have hj := congrArg List.length (cutD_join re 46)
      have hcut := labels_cut re
      rw [← f1, ← f2, ← f3] at hj hcut
      rw [← f1, ← f2] at hcl
      rw [hm] at n1 g3 ⊢
      simp only [if_true] at n1 g3 ⊢
      refine ⟨⟨by omega, by trivial, by trivial, by omega, ?_, ?_⟩, ?_⟩
      · split
        · rename_i hmo
          rw [hmo] at hj
          simp at hj
          omega
        · omega
      · rw [show (n + 1).toNat = n.toNat + 1 by omega, g3, hcut]
      · split
        · rename_i hmo
          rw [hmo] at hj
          simp at hj
          omega
        · omega
    · rw [hm] at g3
      have := congrArg List.length g3
      simp at this
      omega
theorem h4 : c_law13_HostLabels.ok Try.prog GL 4 := con_ok (H := {joins := [9]}) (mkEnv_ok (gl := GL) (l := [(16, i16), (17, conSem c_r13_Labels), (15, conSem c_law13_works)]) (q := [(32, i32)]) (d := []) _ tyOk (by kernel_rfl) ⟨i16_ok, h17.call, h15.call, trivial⟩ ⟨i32_ok, trivial⟩ trivial) (by kernel_rfl) (by kernel_rfl) (Eq.mp e4 k4)

end Go.Proofs.Ytlpbhgcndebkcaa
