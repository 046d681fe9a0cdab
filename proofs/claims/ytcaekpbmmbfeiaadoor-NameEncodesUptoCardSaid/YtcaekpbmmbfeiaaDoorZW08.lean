/- Texts of a verified walk, led together: Name3A, Name3W. -/
import Derived.Test.YtcaekpbmmbfeiaaDoorZW07
import Derived.Test.YtcaekpbmmbfeiaaDoorZV11
set_option linter.unusedVariables false
set_option linter.unusedSimpArgs false
section
/- Contracts. -/
namespace Go.Proofs.YtcaekpbmmbfeiaaDoor
open Go Go.Vc Go.Pl Go.Proofs
def c_slices_Equal_int_int : Con := { args := [.dat (.sl I64), .dat (.sl I64)], res := [.dat .bool], pre := fun _ => True, post := fun x y => y.1 = decide (x.1 = x.2.1) }
def c_oid_Begins : Con := { args := [.dat (.sl I64), .dat (.sl I64)], res := [.dat .bool], pre := fun _ => True, post := fun x y => y.1 = decide (x.1.take x.2.1.length = x.2.1) }
def c_name_wrap : Con := { args := [.dat I64, .dat (.sl BY)], res := [.own 5 U8], pre := fun x => isTagD x.1 = true ∧ lenF x.2.1 ≤ 16777215, post := fun x y => y.1 = putB (x.1, x.2.1.flatten) }
def c_name_Encode : Con := { args := [.dat (.sl AT)], res := [.own 5 U8, .dat I64], pre := fun x => x.1.length ≤ 1000000000, post := fun x y => (y.1, y.2.1) = EncN x.1 }
def c_name_only : Con := { args := [.dat BY, .dat I64], res := [.dat BY, .dat .bool], pre := fun x => lenB x.1 ≤ 100000000, post := fun x y => y.1 = (oneD x.1).1.2 ∧ y.2.1 = (decide ((oneD x.1).2 = 0) && decide ((oneD x.1).1.1 = x.2.1)) }
def c_r12_put : Con := { args := [.dat I64, .dat BY], res := [.own 5 U8], pre := fun x => 0 ≤ x.1 ∧ x.1 ≤ 255 ∧ lenB x.2.1 ≤ 16777215, post := fun x y => y.1 = putB (x.1, x.2.1) }
def c_r12_Encode : Con := { args := [.dat (.sl AT)], res := [.own 5 U8, .dat I64], pre := fun x => x.1.length ≤ 1000000000 ∧ ∀ a ∈ x.1, a.2.length ≤ 100000000, post := fun x y => (y.1, y.2.1) = EncN x.1 }
def c_r12_inside : Con := { args := [.dat BY, .dat I64], res := [.own 76 ET, .dat .bool], pre := fun x => lenB x.1 ≤ 100000000, post := fun x y => (y.1, y.2.1) = insD x.1 x.2.1 }
def c_r12_guess : Con := { args := [.dat BY], res := [.own 56 AT], pre := fun x => lenB x.1 ≤ 100000000, post := fun x y => y.1 = guessD x.1 }
def c_r12_Decode : Con := { args := [.dat BY], res := [.own 56 AT, .dat I64], pre := fun x => lenB x.1 ≤ 100000000, post := fun x y => decQ x.1 y.1 y.2.1 = true }

end Go.Proofs.YtcaekpbmmbfeiaaDoor
end
section
/- Walks. -/
namespace Go.Proofs.YtcaekpbmmbfeiaaDoor
open Go Go.Vc Go.Pl Go.Proofs
set_option linter.unusedVariables false
set_option linter.unusedSimpArgs false
set_option maxRecDepth 20000
theorem adft_eq4 : Kd.dft (Kd.pair (Kd.int IntKind.i64) Kd.str) = adft := rfl
theorem edft_eq : Kd.dft (Kd.pair (Kd.int IntKind.i64) (Kd.sl (Kd.int IntKind.u8))) = edft := rfl
def t93 : Prop :=
  ∀ (x : List Int × List Int × Unit), Kd.wf (Kd.sl (Kd.int IntKind.i64)) x.fst ∧ Kd.wf (Kd.sl (Kd.int IntKind.i64)) x.snd.fst ∧ True → True → (decide ((↑(List.length x.fst) : Int) ≠
  (↑(List.length x.snd.fst) : Int)) = true → false = decide (x.fst = x.snd.fst)) ∧ (decide ((↑(List.length x.fst) : Int) ≠ (↑(List.length x.snd.fst) : Int)) = false → ∃ (I : Int × Bool × Unit
  → Unit → Prop), ∃ (μ : Int × Bool × Unit → Unit → Nat), ((↑(List.length x.fst) : Int) = (↑(List.length x.fst) : Int) ∧ Value.bool false = Value.bool false ∧ x.fst = x.fst ∧ x.snd.fst =
  x.snd.fst ∧ I ((0 : Int), false, ()) ()) ∧ ∀ (y : Int × Bool × Unit) (z : Unit), Kd.wf (Kd.int IntKind.i64) y.fst ∧ Kd.wf Kd.bool y.snd.fst ∧ True → True → I y z → (decide (y.fst <
  (↑(List.length x.fst) : Int)) = true → ((0 : Int) ≤ y.fst ∧ y.fst < (↑(List.length x.fst) : Int)) ∧ ((0 : Int) ≤ y.fst ∧ y.fst < (↑(List.length x.snd.fst) : Int)) ∧ (decide (List.getD x.fst
  (Int.toNat y.fst) (Kd.dft (Kd.int IntKind.i64)) ≠ List.getD x.snd.fst (Int.toNat y.fst) (Kd.dft (Kd.int IntKind.i64))) = true → false = decide (x.fst = x.snd.fst)) ∧ (decide (List.getD
  x.fst (Int.toNat y.fst) (Kd.dft (Kd.int IntKind.i64)) ≠ List.getD x.snd.fst (Int.toNat y.fst) (Kd.dft (Kd.int IntKind.i64))) = false → (↑(List.length x.fst) : Int) = (↑(List.length x.fst) :
  Int) ∧ Value.bool false = Value.bool false ∧ x.fst = x.fst ∧ x.snd.fst = x.snd.fst ∧ I (IntKind.wrap IntKind.i64 (y.fst + (1 : Int)), y.snd.fst, ()) () ∧ μ (IntKind.wrap IntKind.i64 (y.fst
  + (1 : Int)), y.snd.fst, ()) () < μ y z)) ∧ (decide (y.fst < (↑(List.length x.fst) : Int)) = false → true = decide (x.fst = x.snd.fst)))
theorem e93 : t93 = Con.vc c_slices_Equal_int_int GL (mkEnv ty [] [] [] [0, 1, 4, 5, 10, 12, 13, 14, 24]) {} Tryd.f93.ntmps Tryd.f93.results.toList (bodyOf Tryd.f93) := by kernel_rfl
theorem k93 : t93 := by
  unfold t93
  rintro ⟨a, b, _⟩ hx hp
  have hl : a.length ≤ 9223372036854775807 := hx.1.1
  try dsimp +instances only [dft_int, dft_sl, dft_str]
  simp only [true_and, and_true, eq_self_iff_true, implies_true, reduceCtorEq, false_implies, true_implies, decide_eq_true_eq, decide_eq_false_iff_not, beq_self_eq_true, Bool.not_eq_true', ne_eq, Decidable.not_not, List.nil_append, List.length_singleton, List.length_cons, List.length_nil, Nat.zero_add, Nat.add_zero, Nat.mul_one, and_self, beq_iff_eq, Bool.not_true, Bool.not_false, Bool.not_eq_false', Bool.cond_false_right, Bool.and_eq_true, imp_self, Bool.not_eq_true, Bool.cond_true_left, Bool.or_eq_true]
  refine ⟨fun h => (decide_eq_false (fun e => h (by rw [e]))).symm, fun h => ?_⟩
  refine ⟨fun y _ => 0 ≤ y.1 ∧ y.1 ≤ a.length ∧ a.take y.1.toNat = b.take y.1.toNat, fun y _ => ((a.length : Int) - y.1).toNat, ⟨Int.le_refl 0, by simp only; omega, rfl⟩, ?_⟩
  rintro ⟨i, q, _⟩ _ _ ⟨i0, i1, e⟩
  simp only at i0 i1 e ⊢
  refine ⟨fun hlt => ⟨⟨i0, hlt⟩, ⟨i0, by omega⟩, fun hne => ?_, fun he => ?_⟩, fun hge => ?_⟩
  · refine (decide_eq_false fun e2 => hne ?_).symm
    rw [e2]
  · rw [wrapM (i + 1) (by omega) (by omega)]
    refine ⟨⟨by omega, by omega, ?_⟩, by omega⟩
    rw [show (i + 1).toNat = i.toNat + 1 by omega, take_snoc a _ (by omega), take_snoc b _ (by omega), e, he]
  · rw [List.take_of_length_le (by omega), List.take_of_length_le (by omega)] at e
    exact (decide_eq_true e).symm
theorem h93 : c_slices_Equal_int_int.ok Tryd.prog GL 93 := con_ok (H := {}) (mkEnv_ok (gl := GL) (l := []) (q := []) (d := []) _ tyOk (by kernel_rfl) trivial trivial trivial) (by kernel_rfl) (by kernel_rfl) (Eq.mp e93 k93)

def t67 : Prop :=
  ∀ (x : List Int × List Int × Unit), Kd.wf (Kd.sl (Kd.int IntKind.i64)) x.fst ∧ Kd.wf (Kd.sl (Kd.int IntKind.i64)) x.snd.fst ∧ True → True → (decide ((↑(List.length x.snd.fst) : Int) ≤
  (↑(List.length x.fst) : Int)) = true → True) ∧ (decide ((↑(List.length x.snd.fst) : Int) ≤ (↑(List.length x.fst) : Int)) = true → True) ∧ (decide ((↑(List.length x.snd.fst) : Int) ≤
  (↑(List.length x.fst) : Int)) = true → (decide ((↑(List.length x.snd.fst) : Int) ≤ (↑(List.length x.fst) : Int)) == true) = true ∧ True) ∧ (decide ((↑(List.length x.snd.fst) : Int) ≤
  (↑(List.length x.fst) : Int)) = true → (decide ((↑(List.length x.snd.fst) : Int) ≤ (↑(List.length x.fst) : Int)) == true) = true ∧ (decide ((↑(List.length x.snd.fst) : Int) ≤ (↑(List.length
  x.fst) : Int)) == true) = true ∧ ((0 : Int) ≤ (↑(List.length x.snd.fst) : Int) ∧ (↑(List.length x.snd.fst) : Int) ≤ (↑(List.length x.fst) : Int)) ∧ True) ∧ (decide ((↑(List.length
  x.snd.fst) : Int) ≤ (↑(List.length x.fst) : Int)) = true → True) ∧ (decide ((↑(List.length x.snd.fst) : Int) ≤ (↑(List.length x.fst) : Int)) = true → (decide ((↑(List.length x.snd.fst) :
  Int) ≤ (↑(List.length x.fst) : Int)) == true) = true ∧ (decide ((↑(List.length x.snd.fst) : Int) ≤ (↑(List.length x.fst) : Int)) == true) = true ∧ True ∧ (∀ (y : Bool × Unit), Kd.wf Kd.bool
  y.fst ∧ True → y.fst = decide (List.take (Int.toNat (↑(List.length x.snd.fst) : Int)) x.fst = x.snd.fst) → y.fst = decide (List.take (List.length x.snd.fst) x.fst = x.snd.fst)) ∧ True) ∧
  (decide ((↑(List.length x.snd.fst) : Int) ≤ (↑(List.length x.fst) : Int)) = !true → false = decide (List.take (List.length x.snd.fst) x.fst = x.snd.fst))
theorem e67 : t67 = Con.vc c_oid_Begins GL (mkEnv ty [(93, conSem c_slices_Equal_int_int)] [] [] [0, 1, 4]) {} Tryd.f67.ntmps Tryd.f67.results.toList (bodyOf Tryd.f67) := by kernel_rfl
theorem k67 : t67 := by
  unfold t67
  rintro ⟨a, b, _⟩ hx hp
  try dsimp +instances only [dft_int, dft_sl, dft_str]
  simp only [true_and, and_true, eq_self_iff_true, implies_true, reduceCtorEq, false_implies, true_implies, decide_eq_true_eq, decide_eq_false_iff_not, beq_self_eq_true, Bool.not_eq_true', ne_eq, Decidable.not_not, List.nil_append, List.length_singleton, List.length_cons, List.length_nil, Nat.zero_add, Nat.add_zero, Nat.mul_one, and_self, beq_iff_eq, Bool.not_true, Bool.not_false, Bool.not_eq_false', Bool.cond_false_right, Bool.and_eq_true, imp_self, Bool.not_eq_true, Bool.cond_true_left, Bool.or_eq_true]
  refine ⟨fun h => ⟨h, h, by omega, h⟩, fun h => ⟨h, h, fun y _ e => ?_⟩, fun h => ?_⟩
  · rw [e, Int.toNat_natCast]
  · refine (decide_eq_false fun e => h ?_).symm
    have := congrArg List.length e
    rw [List.length_take] at this
    omega
theorem h67 : c_oid_Begins.ok Tryd.prog GL 67 := con_ok (H := {}) (mkEnv_ok (gl := GL) (l := [(93, conSem c_slices_Equal_int_int)]) (q := []) (d := []) _ tyOk (by kernel_rfl) ⟨h93.call, trivial⟩ trivial trivial) (by kernel_rfl) (by kernel_rfl) (Eq.mp e67 k67)

def t49 : Prop :=
  ∀ (x : Int × List (List Int) × Unit), Kd.wf (Kd.int IntKind.i64) x.fst ∧ Kd.wf (Kd.sl (Kd.sl (Kd.int IntKind.u8))) x.snd.fst ∧ True → isTagD x.fst = true ∧ lenF x.snd.fst ≤ (16777215 : Nat)
  → lenB [] ≤ (900000000 : Nat) ∧ (∀ (y : List Int × Int × Unit), Kd.wf (Kd.sl (Kd.int IntKind.u8)) y.fst ∧ Kd.wf (Kd.int IntKind.i64) y.snd.fst ∧ True → (y.fst, y.snd.fst) = PutD [] x.fst
  (List.flatten x.snd.fst) → y.fst = putB (x.fst, List.flatten x.snd.fst)) ∧ True
theorem e49 : t49 = Con.vc c_name_wrap GL (mkEnv ty [(72, conSem c_der_Put)] [] [] [0, 1, 4, 5]) {} Tryd.f49.ntmps Tryd.f49.results.toList (bodyOf Tryd.f49) := by kernel_rfl
theorem k49 : t49 := by
  unfold t49
  rintro ⟨t, cs, _⟩ hx hp
  obtain ⟨h1, h2⟩ := hp
  simp only [lenF] at h1 h2
  try dsimp +instances only [dft_int, dft_sl, dft_str]
  simp only [true_and, and_true, eq_self_iff_true, implies_true, reduceCtorEq, false_implies, true_implies, decide_eq_true_eq, decide_eq_false_iff_not, beq_self_eq_true, Bool.not_eq_true', ne_eq, Decidable.not_not, List.nil_append, List.length_singleton, List.length_cons, List.length_nil, Nat.zero_add, Nat.add_zero, Nat.mul_one, and_self, beq_iff_eq, Bool.not_true, Bool.not_false, Bool.not_eq_false', Bool.cond_false_right, Bool.and_eq_true, imp_self, Bool.not_eq_true, Bool.cond_true_left, Bool.or_eq_true]
  refine ⟨by simp [lenB], ?_⟩
  rintro ⟨y, e, _⟩ _ h
  simp only at h ⊢
  rw [put_nil t _ h1 h2] at h
  exact (Prod.mk.inj h).1
theorem h49 : c_name_wrap.ok Tryd.prog GL 49 := con_ok (H := {}) (mkEnv_ok (gl := GL) (l := [(72, conSem c_der_Put)]) (q := []) (d := []) _ tyOk (by kernel_rfl) ⟨h72.call, trivial⟩ trivial trivial) (by kernel_rfl) (by kernel_rfl) (Eq.mp e49 k49)

def t25 : Prop :=
  ∀ (x : List (Int × List Int) × Unit), Kd.wf (Kd.sl (Kd.pair (Kd.int IntKind.i64) Kd.str)) x.fst ∧ True → List.length x.fst ≤ (1000000000 : Nat) → True ∧ (∀ (y : Bool × Unit), Kd.wf Kd.bool
  y.fst ∧ True → y.fst = mayN x.fst → ((!y.fst) = true → ([], (120 : Int)) = EncN x.fst) ∧ ((!y.fst) = false → ∃ (I : Int × Unit → List (List Int) × Unit → Prop), ∃ (μ : Int × Unit → List
  (List Int) × Unit → Nat), ((↑(List.length x.fst) : Int) = (↑(List.length x.fst) : Int) ∧ x.fst = x.fst ∧ Value.bool false = Value.bool false ∧ (0 : Int) = (0 : Int) ∧ Value.slice none (0 :
  Nat) (0 : Nat) = Value.slice none (0 : Nat) (0 : Nat) ∧ x.fst = x.fst ∧ I ((0 : Int), ()) ([], ())) ∧ ∀ (y : Int × Unit) (z : List (List Int) × Unit), Kd.wf (Kd.int IntKind.i64) y.fst ∧
  True → Kd.wf (Kd.sl (Kd.sl (Kd.int IntKind.u8))) z.fst ∧ True → I y z → (decide (y.fst < (↑(List.length x.fst) : Int)) = true → ((0 : Int) ≤ y.fst ∧ y.fst < (↑(List.length x.fst) : Int)) ∧
  (2 : Nat) ≤ (65536 : Nat) ∧ True ∧ (∀ (y_1 : Int × Int × Unit), Kd.wf (Kd.int IntKind.i64) y_1.fst ∧ Kd.wf (Kd.int IntKind.i64) y_1.snd.fst ∧ True → y_1.fst = (kindD (List.getD x.fst
  (Int.toNat y.fst) (Kd.dft (Kd.pair (Kd.int IntKind.i64) Kd.str))).snd).fst ∧ y_1.snd.fst = (kindD (List.getD x.fst (Int.toNat y.fst) (Kd.dft (Kd.pair (Kd.int IntKind.i64) Kd.str))).snd).snd
  → True ∧ (∀ (y_2 : List Int × Int × Unit), Kd.wf (Kd.sl (Kd.int IntKind.u8)) y_2.fst ∧ Kd.wf (Kd.int IntKind.i64) y_2.snd.fst ∧ True → (y_2.fst, y_2.snd.fst) = EncO [(2 : Int), (5 : Int),
  (4 : Int), (List.getD x.fst (Int.toNat y.fst) (Kd.dft (Kd.pair (Kd.int IntKind.i64) Kd.str))).fst] → (((isTagD (6 : Int) = true ∧ lenF [y_2.fst] ≤ (16777215 : Nat)) ∧ (∀ (y_3 : List Int ×
  Unit), Kd.wf (Kd.sl (Kd.int IntKind.u8)) y_3.fst ∧ True → y_3.fst = putB ((6 : Int), List.flatten [y_2.fst]) → (((((isTagD y_1.fst = true ∧ lenF [(List.getD x.fst (Int.toNat y.fst) (Kd.dft
  (Kd.pair (Kd.int IntKind.i64) Kd.str))).snd] ≤ (16777215 : Nat)) ∧ (∀ (y_4 : List Int × Unit), Kd.wf (Kd.sl (Kd.int IntKind.u8)) y_4.fst ∧ True → y_4.fst = putB (y_1.fst, List.flatten
  [(List.getD x.fst (Int.toNat y.fst) (Kd.dft (Kd.pair (Kd.int IntKind.i64) Kd.str))).snd]) → (((isTagD (48 : Int) = true ∧ lenF [y_3.fst, y_4.fst] ≤ (16777215 : Nat)) ∧ (∀ (y_5 : List Int ×
  Unit), Kd.wf (Kd.sl (Kd.int IntKind.u8)) y_5.fst ∧ True → y_5.fst = putB ((48 : Int), List.flatten [y_3.fst, y_4.fst]) → (((isTagD (49 : Int) = true ∧ lenF [y_5.fst] ≤ (16777215 : Nat)) ∧
  (∀ (y_6 : List Int × Unit), Kd.wf (Kd.sl (Kd.int IntKind.u8)) y_6.fst ∧ True → y_6.fst = putB ((49 : Int), List.flatten [y_5.fst]) → (((0 : Nat) < (1 : Nat) ∧ (List.length z.fst +
  List.length [y_6.fst]) * (24 : Nat) ≤ (140737488355328 : Nat) ∧ List.length z.fst + List.length [y_6.fst] ≤ (9223372036854775807 : Nat) ∧ (↑(List.length x.fst) : Int) = (↑(List.length
  x.fst) : Int) ∧ x.fst = x.fst ∧ Value.bool false = Value.bool false ∧ (0 : Int) = (0 : Int) ∧ Value.slice none (0 : Nat) (0 : Nat) = Value.slice none (0 : Nat) (0 : Nat) ∧ x.fst = x.fst ∧ I
  (IntKind.wrap IntKind.i64 (y.fst + (1 : Int)), ()) (z.fst ++ [y_6.fst], ()) ∧ μ (IntKind.wrap IntKind.i64 (y.fst + (1 : Int)), ()) (z.fst ++ [y_6.fst], ()) < μ y z) ∧ True) ∧ True) ∧ True)
  ∧ True) ∧ True) ∧ True) ∧ True) ∧ True) ∧ True) ∧ True) ∧ True) ∧ True) ∧ True) ∧ True) ∧ (((isTagD (6 : Int) = true ∧ lenF [y_2.fst] ≤ (16777215 : Nat)) ∧ (∀ (y_3 : List Int × Unit), Kd.wf
  (Kd.sl (Kd.int IntKind.u8)) y_3.fst ∧ True → y_3.fst = putB ((6 : Int), List.flatten [y_2.fst]) → ((((isTagD y_1.fst = true ∧ lenF [(List.getD x.fst (Int.toNat y.fst) (Kd.dft (Kd.pair
  (Kd.int IntKind.i64) Kd.str))).snd] ≤ (16777215 : Nat)) ∧ (∀ (y_4 : List Int × Unit), Kd.wf (Kd.sl (Kd.int IntKind.u8)) y_4.fst ∧ True → y_4.fst = putB (y_1.fst, List.flatten [(List.getD
  x.fst (Int.toNat y.fst) (Kd.dft (Kd.pair (Kd.int IntKind.i64) Kd.str))).snd]) → (((isTagD (48 : Int) = true ∧ lenF [y_3.fst, y_4.fst] ≤ (16777215 : Nat)) ∧ (∀ (y_5 : List Int × Unit), Kd.wf
  (Kd.sl (Kd.int IntKind.u8)) y_5.fst ∧ True → y_5.fst = putB ((48 : Int), List.flatten [y_3.fst, y_4.fst]) → (((isTagD (49 : Int) = true ∧ lenF [y_5.fst] ≤ (16777215 : Nat)) ∧ (∀ (y_6 : List
  Int × Unit), Kd.wf (Kd.sl (Kd.int IntKind.u8)) y_6.fst ∧ True → y_6.fst = putB ((49 : Int), List.flatten [y_5.fst]) → (((0 : Nat) < (1 : Nat) ∧ (List.length z.fst + List.length [y_6.fst]) *
  (24 : Nat) ≤ (140737488355328 : Nat) ∧ List.length z.fst + List.length [y_6.fst] ≤ (9223372036854775807 : Nat) ∧ (↑(List.length x.fst) : Int) = (↑(List.length x.fst) : Int) ∧ x.fst = x.fst
  ∧ Value.bool false = Value.bool false ∧ (0 : Int) = (0 : Int) ∧ Value.slice none (0 : Nat) (0 : Nat) = Value.slice none (0 : Nat) (0 : Nat) ∧ x.fst = x.fst ∧ I (IntKind.wrap IntKind.i64
  (y.fst + (1 : Int)), ()) (z.fst ++ [y_6.fst], ()) ∧ μ (IntKind.wrap IntKind.i64 (y.fst + (1 : Int)), ()) (z.fst ++ [y_6.fst], ()) < μ y z) ∧ True) ∧ True) ∧ True) ∧ True) ∧ True) ∧ True) ∧
  True) ∧ True) ∧ True) ∧ True) ∧ True) ∧ True) ∧ True) ∧ (((isTagD (6 : Int) = true ∧ lenF [y_2.fst] ≤ (16777215 : Nat)) ∧ (∀ (y_3 : List Int × Unit), Kd.wf (Kd.sl (Kd.int IntKind.u8))
  y_3.fst ∧ True → y_3.fst = putB ((6 : Int), List.flatten [y_2.fst]) → (((isTagD y_1.fst = true ∧ lenF [(List.getD x.fst (Int.toNat y.fst) (Kd.dft (Kd.pair (Kd.int IntKind.i64)
  Kd.str))).snd] ≤ (16777215 : Nat)) ∧ (∀ (y_4 : List Int × Unit), Kd.wf (Kd.sl (Kd.int IntKind.u8)) y_4.fst ∧ True → y_4.fst = putB (y_1.fst, List.flatten [(List.getD x.fst (Int.toNat y.fst)
  (Kd.dft (Kd.pair (Kd.int IntKind.i64) Kd.str))).snd]) → (((isTagD (48 : Int) = true ∧ lenF [y_3.fst, y_4.fst] ≤ (16777215 : Nat)) ∧ (∀ (y_5 : List Int × Unit), Kd.wf (Kd.sl (Kd.int
  IntKind.u8)) y_5.fst ∧ True → y_5.fst = putB ((48 : Int), List.flatten [y_3.fst, y_4.fst]) → (((isTagD (49 : Int) = true ∧ lenF [y_5.fst] ≤ (16777215 : Nat)) ∧ (∀ (y_6 : List Int × Unit),
  Kd.wf (Kd.sl (Kd.int IntKind.u8)) y_6.fst ∧ True → y_6.fst = putB ((49 : Int), List.flatten [y_5.fst]) → (((0 : Nat) < (1 : Nat) ∧ (List.length z.fst + List.length [y_6.fst]) * (24 : Nat) ≤
  (140737488355328 : Nat) ∧ List.length z.fst + List.length [y_6.fst] ≤ (9223372036854775807 : Nat) ∧ (↑(List.length x.fst) : Int) = (↑(List.length x.fst) : Int) ∧ x.fst = x.fst ∧ Value.bool
  false = Value.bool false ∧ (0 : Int) = (0 : Int) ∧ Value.slice none (0 : Nat) (0 : Nat) = Value.slice none (0 : Nat) (0 : Nat) ∧ x.fst = x.fst ∧ I (IntKind.wrap IntKind.i64 (y.fst + (1 :
  Int)), ()) (z.fst ++ [y_6.fst], ()) ∧ μ (IntKind.wrap IntKind.i64 (y.fst + (1 : Int)), ()) (z.fst ++ [y_6.fst], ()) < μ y z) ∧ True) ∧ True) ∧ True) ∧ True) ∧ True) ∧ True) ∧ True) ∧ True)
  ∧ True) ∧ True) ∧ True) ∧ True) ∧ (((isTagD (6 : Int) = true ∧ lenF [y_2.fst] ≤ (16777215 : Nat)) ∧ (∀ (y_3 : List Int × Unit), Kd.wf (Kd.sl (Kd.int IntKind.u8)) y_3.fst ∧ True → y_3.fst =
  putB ((6 : Int), List.flatten [y_2.fst]) → ((isTagD y_1.fst = true ∧ lenF [(List.getD x.fst (Int.toNat y.fst) (Kd.dft (Kd.pair (Kd.int IntKind.i64) Kd.str))).snd] ≤ (16777215 : Nat)) ∧ (∀
  (y_4 : List Int × Unit), Kd.wf (Kd.sl (Kd.int IntKind.u8)) y_4.fst ∧ True → y_4.fst = putB (y_1.fst, List.flatten [(List.getD x.fst (Int.toNat y.fst) (Kd.dft (Kd.pair (Kd.int IntKind.i64)
  Kd.str))).snd]) → (((isTagD (48 : Int) = true ∧ lenF [y_3.fst, y_4.fst] ≤ (16777215 : Nat)) ∧ (∀ (y_5 : List Int × Unit), Kd.wf (Kd.sl (Kd.int IntKind.u8)) y_5.fst ∧ True → y_5.fst = putB
  ((48 : Int), List.flatten [y_3.fst, y_4.fst]) → (((isTagD (49 : Int) = true ∧ lenF [y_5.fst] ≤ (16777215 : Nat)) ∧ (∀ (y_6 : List Int × Unit), Kd.wf (Kd.sl (Kd.int IntKind.u8)) y_6.fst ∧
  True → y_6.fst = putB ((49 : Int), List.flatten [y_5.fst]) → (((0 : Nat) < (1 : Nat) ∧ (List.length z.fst + List.length [y_6.fst]) * (24 : Nat) ≤ (140737488355328 : Nat) ∧ List.length z.fst
  + List.length [y_6.fst] ≤ (9223372036854775807 : Nat) ∧ (↑(List.length x.fst) : Int) = (↑(List.length x.fst) : Int) ∧ x.fst = x.fst ∧ Value.bool false = Value.bool false ∧ (0 : Int) = (0 :
  Int) ∧ Value.slice none (0 : Nat) (0 : Nat) = Value.slice none (0 : Nat) (0 : Nat) ∧ x.fst = x.fst ∧ I (IntKind.wrap IntKind.i64 (y.fst + (1 : Int)), ()) (z.fst ++ [y_6.fst], ()) ∧ μ
  (IntKind.wrap IntKind.i64 (y.fst + (1 : Int)), ()) (z.fst ++ [y_6.fst], ()) < μ y z) ∧ True) ∧ True) ∧ True) ∧ True) ∧ True) ∧ True) ∧ True) ∧ True) ∧ True) ∧ True) ∧ True) ∧ True) ∧ True)
  ∧ True) ∧ True) ∧ ((((isTagD (6 : Int) = true ∧ lenF [y_2.fst] ≤ (16777215 : Nat)) ∧ (∀ (y_3 : List Int × Unit), Kd.wf (Kd.sl (Kd.int IntKind.u8)) y_3.fst ∧ True → y_3.fst = putB ((6 :
  Int), List.flatten [y_2.fst]) → ((((isTagD y_1.fst = true ∧ lenF [(List.getD x.fst (Int.toNat y.fst) (Kd.dft (Kd.pair (Kd.int IntKind.i64) Kd.str))).snd] ≤ (16777215 : Nat)) ∧ (∀ (y_4 :
  List Int × Unit), Kd.wf (Kd.sl (Kd.int IntKind.u8)) y_4.fst ∧ True → y_4.fst = putB (y_1.fst, List.flatten [(List.getD x.fst (Int.toNat y.fst) (Kd.dft (Kd.pair (Kd.int IntKind.i64)
  Kd.str))).snd]) → (((isTagD (48 : Int) = true ∧ lenF [y_3.fst, y_4.fst] ≤ (16777215 : Nat)) ∧ (∀ (y_5 : List Int × Unit), Kd.wf (Kd.sl (Kd.int IntKind.u8)) y_5.fst ∧ True → y_5.fst = putB
  ((48 : Int), List.flatten [y_3.fst, y_4.fst]) → (((isTagD (49 : Int) = true ∧ lenF [y_5.fst] ≤ (16777215 : Nat)) ∧ (∀ (y_6 : List Int × Unit), Kd.wf (Kd.sl (Kd.int IntKind.u8)) y_6.fst ∧
  True → y_6.fst = putB ((49 : Int), List.flatten [y_5.fst]) → (((0 : Nat) < (1 : Nat) ∧ (List.length z.fst + List.length [y_6.fst]) * (24 : Nat) ≤ (140737488355328 : Nat) ∧ List.length z.fst
  + List.length [y_6.fst] ≤ (9223372036854775807 : Nat) ∧ (↑(List.length x.fst) : Int) = (↑(List.length x.fst) : Int) ∧ x.fst = x.fst ∧ Value.bool false = Value.bool false ∧ (0 : Int) = (0 :
  Int) ∧ Value.slice none (0 : Nat) (0 : Nat) = Value.slice none (0 : Nat) (0 : Nat) ∧ x.fst = x.fst ∧ I (IntKind.wrap IntKind.i64 (y.fst + (1 : Int)), ()) (z.fst ++ [y_6.fst], ()) ∧ μ
  (IntKind.wrap IntKind.i64 (y.fst + (1 : Int)), ()) (z.fst ++ [y_6.fst], ()) < μ y z) ∧ True) ∧ True) ∧ True) ∧ True) ∧ True) ∧ True) ∧ True) ∧ True) ∧ True) ∧ True) ∧ True) ∧ True) ∧ True)
  ∧ (((isTagD (6 : Int) = true ∧ lenF [y_2.fst] ≤ (16777215 : Nat)) ∧ (∀ (y_3 : List Int × Unit), Kd.wf (Kd.sl (Kd.int IntKind.u8)) y_3.fst ∧ True → y_3.fst = putB ((6 : Int), List.flatten
  [y_2.fst]) → (((isTagD y_1.fst = true ∧ lenF [(List.getD x.fst (Int.toNat y.fst) (Kd.dft (Kd.pair (Kd.int IntKind.i64) Kd.str))).snd] ≤ (16777215 : Nat)) ∧ (∀ (y_4 : List Int × Unit), Kd.wf
  (Kd.sl (Kd.int IntKind.u8)) y_4.fst ∧ True → y_4.fst = putB (y_1.fst, List.flatten [(List.getD x.fst (Int.toNat y.fst) (Kd.dft (Kd.pair (Kd.int IntKind.i64) Kd.str))).snd]) → (((isTagD (48
  : Int) = true ∧ lenF [y_3.fst, y_4.fst] ≤ (16777215 : Nat)) ∧ (∀ (y_5 : List Int × Unit), Kd.wf (Kd.sl (Kd.int IntKind.u8)) y_5.fst ∧ True → y_5.fst = putB ((48 : Int), List.flatten
  [y_3.fst, y_4.fst]) → (((isTagD (49 : Int) = true ∧ lenF [y_5.fst] ≤ (16777215 : Nat)) ∧ (∀ (y_6 : List Int × Unit), Kd.wf (Kd.sl (Kd.int IntKind.u8)) y_6.fst ∧ True → y_6.fst = putB ((49 :
  Int), List.flatten [y_5.fst]) → (((0 : Nat) < (1 : Nat) ∧ (List.length z.fst + List.length [y_6.fst]) * (24 : Nat) ≤ (140737488355328 : Nat) ∧ List.length z.fst + List.length [y_6.fst] ≤
  (9223372036854775807 : Nat) ∧ (↑(List.length x.fst) : Int) = (↑(List.length x.fst) : Int) ∧ x.fst = x.fst ∧ Value.bool false = Value.bool false ∧ (0 : Int) = (0 : Int) ∧ Value.slice none (0
  : Nat) (0 : Nat) = Value.slice none (0 : Nat) (0 : Nat) ∧ x.fst = x.fst ∧ I (IntKind.wrap IntKind.i64 (y.fst + (1 : Int)), ()) (z.fst ++ [y_6.fst], ()) ∧ μ (IntKind.wrap IntKind.i64 (y.fst
  + (1 : Int)), ()) (z.fst ++ [y_6.fst], ()) < μ y z) ∧ True) ∧ True) ∧ True) ∧ True) ∧ True) ∧ True) ∧ True) ∧ True) ∧ True) ∧ True) ∧ True) ∧ True) ∧ (((isTagD (6 : Int) = true ∧ lenF
  [y_2.fst] ≤ (16777215 : Nat)) ∧ (∀ (y_3 : List Int × Unit), Kd.wf (Kd.sl (Kd.int IntKind.u8)) y_3.fst ∧ True → y_3.fst = putB ((6 : Int), List.flatten [y_2.fst]) → ((isTagD y_1.fst = true ∧
  lenF [(List.getD x.fst (Int.toNat y.fst) (Kd.dft (Kd.pair (Kd.int IntKind.i64) Kd.str))).snd] ≤ (16777215 : Nat)) ∧ (∀ (y_4 : List Int × Unit), Kd.wf (Kd.sl (Kd.int IntKind.u8)) y_4.fst ∧
  True → y_4.fst = putB (y_1.fst, List.flatten [(List.getD x.fst (Int.toNat y.fst) (Kd.dft (Kd.pair (Kd.int IntKind.i64) Kd.str))).snd]) → (((isTagD (48 : Int) = true ∧ lenF [y_3.fst,
  y_4.fst] ≤ (16777215 : Nat)) ∧ (∀ (y_5 : List Int × Unit), Kd.wf (Kd.sl (Kd.int IntKind.u8)) y_5.fst ∧ True → y_5.fst = putB ((48 : Int), List.flatten [y_3.fst, y_4.fst]) → (((isTagD (49 :
  Int) = true ∧ lenF [y_5.fst] ≤ (16777215 : Nat)) ∧ (∀ (y_6 : List Int × Unit), Kd.wf (Kd.sl (Kd.int IntKind.u8)) y_6.fst ∧ True → y_6.fst = putB ((49 : Int), List.flatten [y_5.fst]) → (((0
  : Nat) < (1 : Nat) ∧ (List.length z.fst + List.length [y_6.fst]) * (24 : Nat) ≤ (140737488355328 : Nat) ∧ List.length z.fst + List.length [y_6.fst] ≤ (9223372036854775807 : Nat) ∧
  (↑(List.length x.fst) : Int) = (↑(List.length x.fst) : Int) ∧ x.fst = x.fst ∧ Value.bool false = Value.bool false ∧ (0 : Int) = (0 : Int) ∧ Value.slice none (0 : Nat) (0 : Nat) =
  Value.slice none (0 : Nat) (0 : Nat) ∧ x.fst = x.fst ∧ I (IntKind.wrap IntKind.i64 (y.fst + (1 : Int)), ()) (z.fst ++ [y_6.fst], ()) ∧ μ (IntKind.wrap IntKind.i64 (y.fst + (1 : Int)), ())
  (z.fst ++ [y_6.fst], ()) < μ y z) ∧ True) ∧ True) ∧ True) ∧ True) ∧ True) ∧ True) ∧ True) ∧ True) ∧ True) ∧ True) ∧ True) ∧ True) ∧ True) ∧ True) ∧ ((((isTagD (6 : Int) = true ∧ lenF
  [y_2.fst] ≤ (16777215 : Nat)) ∧ (∀ (y_3 : List Int × Unit), Kd.wf (Kd.sl (Kd.int IntKind.u8)) y_3.fst ∧ True → y_3.fst = putB ((6 : Int), List.flatten [y_2.fst]) → (((isTagD y_1.fst = true
  ∧ lenF [(List.getD x.fst (Int.toNat y.fst) (Kd.dft (Kd.pair (Kd.int IntKind.i64) Kd.str))).snd] ≤ (16777215 : Nat)) ∧ (∀ (y_4 : List Int × Unit), Kd.wf (Kd.sl (Kd.int IntKind.u8)) y_4.fst ∧
  True → y_4.fst = putB (y_1.fst, List.flatten [(List.getD x.fst (Int.toNat y.fst) (Kd.dft (Kd.pair (Kd.int IntKind.i64) Kd.str))).snd]) → (((isTagD (48 : Int) = true ∧ lenF [y_3.fst,
  y_4.fst] ≤ (16777215 : Nat)) ∧ (∀ (y_5 : List Int × Unit), Kd.wf (Kd.sl (Kd.int IntKind.u8)) y_5.fst ∧ True → y_5.fst = putB ((48 : Int), List.flatten [y_3.fst, y_4.fst]) → (((isTagD (49 :
  Int) = true ∧ lenF [y_5.fst] ≤ (16777215 : Nat)) ∧ (∀ (y_6 : List Int × Unit), Kd.wf (Kd.sl (Kd.int IntKind.u8)) y_6.fst ∧ True → y_6.fst = putB ((49 : Int), List.flatten [y_5.fst]) → (((0
  : Nat) < (1 : Nat) ∧ (List.length z.fst + List.length [y_6.fst]) * (24 : Nat) ≤ (140737488355328 : Nat) ∧ List.length z.fst + List.length [y_6.fst] ≤ (9223372036854775807 : Nat) ∧
  (↑(List.length x.fst) : Int) = (↑(List.length x.fst) : Int) ∧ x.fst = x.fst ∧ Value.bool false = Value.bool false ∧ (0 : Int) = (0 : Int) ∧ Value.slice none (0 : Nat) (0 : Nat) =
  Value.slice none (0 : Nat) (0 : Nat) ∧ x.fst = x.fst ∧ I (IntKind.wrap IntKind.i64 (y.fst + (1 : Int)), ()) (z.fst ++ [y_6.fst], ()) ∧ μ (IntKind.wrap IntKind.i64 (y.fst + (1 : Int)), ())
  (z.fst ++ [y_6.fst], ()) < μ y z) ∧ True) ∧ True) ∧ True) ∧ True) ∧ True) ∧ True) ∧ True) ∧ True) ∧ True) ∧ True) ∧ True) ∧ True) ∧ (((isTagD (6 : Int) = true ∧ lenF [y_2.fst] ≤ (16777215 :
  Nat)) ∧ (∀ (y_3 : List Int × Unit), Kd.wf (Kd.sl (Kd.int IntKind.u8)) y_3.fst ∧ True → y_3.fst = putB ((6 : Int), List.flatten [y_2.fst]) → ((isTagD y_1.fst = true ∧ lenF [(List.getD x.fst
  (Int.toNat y.fst) (Kd.dft (Kd.pair (Kd.int IntKind.i64) Kd.str))).snd] ≤ (16777215 : Nat)) ∧ (∀ (y_4 : List Int × Unit), Kd.wf (Kd.sl (Kd.int IntKind.u8)) y_4.fst ∧ True → y_4.fst = putB
  (y_1.fst, List.flatten [(List.getD x.fst (Int.toNat y.fst) (Kd.dft (Kd.pair (Kd.int IntKind.i64) Kd.str))).snd]) → (((isTagD (48 : Int) = true ∧ lenF [y_3.fst, y_4.fst] ≤ (16777215 : Nat))
  ∧ (∀ (y_5 : List Int × Unit), Kd.wf (Kd.sl (Kd.int IntKind.u8)) y_5.fst ∧ True → y_5.fst = putB ((48 : Int), List.flatten [y_3.fst, y_4.fst]) → (((isTagD (49 : Int) = true ∧ lenF [y_5.fst]
  ≤ (16777215 : Nat)) ∧ (∀ (y_6 : List Int × Unit), Kd.wf (Kd.sl (Kd.int IntKind.u8)) y_6.fst ∧ True → y_6.fst = putB ((49 : Int), List.flatten [y_5.fst]) → (((0 : Nat) < (1 : Nat) ∧
  (List.length z.fst + List.length [y_6.fst]) * (24 : Nat) ≤ (140737488355328 : Nat) ∧ List.length z.fst + List.length [y_6.fst] ≤ (9223372036854775807 : Nat) ∧ (↑(List.length x.fst) : Int) =
  (↑(List.length x.fst) : Int) ∧ x.fst = x.fst ∧ Value.bool false = Value.bool false ∧ (0 : Int) = (0 : Int) ∧ Value.slice none (0 : Nat) (0 : Nat) = Value.slice none (0 : Nat) (0 : Nat) ∧
  x.fst = x.fst ∧ I (IntKind.wrap IntKind.i64 (y.fst + (1 : Int)), ()) (z.fst ++ [y_6.fst], ()) ∧ μ (IntKind.wrap IntKind.i64 (y.fst + (1 : Int)), ()) (z.fst ++ [y_6.fst], ()) < μ y z) ∧
  True) ∧ True) ∧ True) ∧ True) ∧ True) ∧ True) ∧ True) ∧ True) ∧ True) ∧ True) ∧ True) ∧ True) ∧ True) ∧ ((((isTagD (6 : Int) = true ∧ lenF [y_2.fst] ≤ (16777215 : Nat)) ∧ (∀ (y_3 : List Int
  × Unit), Kd.wf (Kd.sl (Kd.int IntKind.u8)) y_3.fst ∧ True → y_3.fst = putB ((6 : Int), List.flatten [y_2.fst]) → ((isTagD y_1.fst = true ∧ lenF [(List.getD x.fst (Int.toNat y.fst) (Kd.dft
  (Kd.pair (Kd.int IntKind.i64) Kd.str))).snd] ≤ (16777215 : Nat)) ∧ (∀ (y_4 : List Int × Unit), Kd.wf (Kd.sl (Kd.int IntKind.u8)) y_4.fst ∧ True → y_4.fst = putB (y_1.fst, List.flatten
  [(List.getD x.fst (Int.toNat y.fst) (Kd.dft (Kd.pair (Kd.int IntKind.i64) Kd.str))).snd]) → (((isTagD (48 : Int) = true ∧ lenF [y_3.fst, y_4.fst] ≤ (16777215 : Nat)) ∧ (∀ (y_5 : List Int ×
  Unit), Kd.wf (Kd.sl (Kd.int IntKind.u8)) y_5.fst ∧ True → y_5.fst = putB ((48 : Int), List.flatten [y_3.fst, y_4.fst]) → (((isTagD (49 : Int) = true ∧ lenF [y_5.fst] ≤ (16777215 : Nat)) ∧
  (∀ (y_6 : List Int × Unit), Kd.wf (Kd.sl (Kd.int IntKind.u8)) y_6.fst ∧ True → y_6.fst = putB ((49 : Int), List.flatten [y_5.fst]) → (((0 : Nat) < (1 : Nat) ∧ (List.length z.fst +
  List.length [y_6.fst]) * (24 : Nat) ≤ (140737488355328 : Nat) ∧ List.length z.fst + List.length [y_6.fst] ≤ (9223372036854775807 : Nat) ∧ (↑(List.length x.fst) : Int) = (↑(List.length
  x.fst) : Int) ∧ x.fst = x.fst ∧ Value.bool false = Value.bool false ∧ (0 : Int) = (0 : Int) ∧ Value.slice none (0 : Nat) (0 : Nat) = Value.slice none (0 : Nat) (0 : Nat) ∧ x.fst = x.fst ∧ I
  (IntKind.wrap IntKind.i64 (y.fst + (1 : Int)), ()) (z.fst ++ [y_6.fst], ()) ∧ μ (IntKind.wrap IntKind.i64 (y.fst + (1 : Int)), ()) (z.fst ++ [y_6.fst], ()) < μ y z) ∧ True) ∧ True) ∧ True)
  ∧ True) ∧ True) ∧ True) ∧ True) ∧ True) ∧ True) ∧ True) ∧ True) ∧ True) ∧ True) ∧ True) ∧ True) ∧ True) ∧ True) ∧ True) ∧ (decide (y.fst < (↑(List.length x.fst) : Int)) = false → (isTagD
  (48 : Int) = true ∧ lenF z.fst ≤ (16777215 : Nat)) ∧ (∀ (y : List Int × Unit), Kd.wf (Kd.sl (Kd.int IntKind.u8)) y.fst ∧ True → y.fst = putB ((48 : Int), List.flatten z.fst) → (y.fst, (0 :
  Int)) = EncN x.fst) ∧ True))) ∧ True
theorem e25 : t25 = Con.vc c_name_Encode GL (mkEnv ty [(29, conSem c_name_May), (47, conSem c_text_Kind), (48, conSem c_oid_Encode), (49, conSem c_name_wrap)] [] [] [0, 2, 3, 4, 6, 7, 9, 13, 14, 15, 16, 17]) {} Tryd.f25.ntmps Tryd.f25.results.toList (bodyOf Tryd.f25) := by kernel_rfl
theorem k25 : t25 := by
  unfold t25
  rintro ⟨n, _⟩ hx hp
  have hp : n.length ≤ 1000000000 := hp
  try dsimp +instances only [dft_int, dft_sl, dft_str]
  simp only [true_and, and_true, eq_self_iff_true, implies_true, reduceCtorEq, false_implies, true_implies, decide_eq_true_eq, decide_eq_false_iff_not, beq_self_eq_true, Bool.not_eq_true', ne_eq, Decidable.not_not, List.nil_append, List.length_singleton, List.length_cons, List.length_nil, Nat.zero_add, Nat.add_zero, Nat.mul_one, and_self, beq_iff_eq, Bool.not_true, Bool.not_false, Bool.not_eq_false', Bool.cond_false_right, Bool.and_eq_true, imp_self, Bool.not_eq_true, Bool.cond_true_left, Bool.or_eq_true]
  simp only [adft_eq4]
  rintro ⟨m, _⟩ _ em
  simp only at em ⊢
  subst em
  refine ⟨fun h => by rw [EncN, if_neg (by rw [h]; decide)], fun h => ?_⟩
  obtain ⟨h16, hA⟩ := mayN_args h
  have hfl := flat_len n hA
  refine ⟨fun y z => 0 ≤ y.1 ∧ y.1 ≤ n.length ∧ z.1 = (n.take y.1.toNat).map attrE, fun y _ => ((n.length : Int) - y.1).toNat, ⟨Int.le_refl 0, by simp only; omega, rfl⟩, ?_⟩
  rintro ⟨i, _⟩ ⟨z, _⟩ _ _ ⟨i0, i1, ez⟩
  simp only at i0 i1 ez ⊢
  have hzl : z.length ≤ n.length := by rw [ez, List.length_map, List.length_take]; omega
  refine ⟨fun hlt => ⟨⟨i0, hlt⟩, by decide, ?_⟩, fun hge => ?_⟩
  · have hm := hA _ (mem_getD adft n i.toNat (by omega))
    have hst : (n.take (i.toNat + 1)).map attrE = z ++ [attrE (n.getD i.toNat adft)] := by rw [take_snocA adft n _ (by omega), List.map_append, ← ez]; rfl
    generalize n.getD i.toNat adft = a at hm hst
    have hv := mayA_len hm
    have hk := (may_kind hm).2
    have hB := attrB_len hm
    have hE := attrE_len hm
    have hr := label_range (mayA_label hm)
    have p1 : (putB (6, [85, 4, a.1])).length = 5 := put_small (x := (6, [85, 4, a.1])) (by simp)
    have p2 : (putB (elK a)).length = 2 + a.2.length := put_small (x := elK a) (by show a.2.length < 128; omega)
    rintro ⟨k, e, _⟩ _ ⟨ek, ee⟩
    simp only at ek ee ⊢
    rintro ⟨o, f, _⟩ _ eo
    simp only at eo ⊢
    rw [enc_oid hm] at eo
    obtain ⟨rfl, rfl⟩ := Prod.mk.inj eo
    refine ⟨⟨by decide, by simp [lenF]⟩, ?_⟩
    rintro ⟨w1, _⟩ _ e1
    simp only [flat_one] at e1 ⊢
    subst e1
    refine ⟨⟨by rw [ek]; rcases hk with h | h <;> rw [h] <;> decide, by rw [lenF, flat_one]; omega⟩, ?_⟩
    rintro ⟨w2, _⟩ _ e2
    simp only at e2 ⊢
    rw [ek] at e2
    have e2 : w2 = putB (elK a) := e2
    subst e2
    refine ⟨⟨by decide, by rw [lenF, flat_two, List.length_append]; omega⟩, ?_⟩
    rintro ⟨w3, _⟩ _ e3
    simp only [flat_two] at e3 ⊢
    have e3 : w3 = attrB a := e3
    subst e3
    refine ⟨⟨by decide, by rw [lenF, flat_one]; omega⟩, ?_⟩
    rintro ⟨w4, _⟩ _ e4
    simp only at e4 ⊢
    have e4 : w4 = attrE a := e4
    subst e4
    rw [wrapK (i + 1) (by omega) (by omega)]
    refine ⟨by decide, by omega, by omega, ⟨by omega, by omega, ?_⟩, by omega⟩
    rw [show (i + 1).toNat = i.toNat + 1 by omega, hst]
  · have ezz : z.flatten = n.flatMap attrE := by rw [ez, List.take_of_length_le (by omega)]; rfl
    refine ⟨⟨by decide, by rw [lenF, ezz]; omega⟩, ?_⟩
    rintro ⟨w, _⟩ _ ew
    simp only at ew ⊢
    rw [ezz] at ew
    rw [ew, EncN, if_pos h]
    rfl
theorem h25 : c_name_Encode.ok Tryd.prog GL 25 := con_ok (H := {}) (mkEnv_ok (gl := GL) (l := [(29, conSem c_name_May), (47, conSem c_text_Kind), (48, conSem c_oid_Encode), (49, conSem c_name_wrap)]) (q := []) (d := []) _ tyOk (by kernel_rfl) ⟨h29.call, h47.call, h48.call, h49.call, trivial⟩ trivial trivial) (by kernel_rfl) (by kernel_rfl) (Eq.mp e25 k25)

def t65 : Prop :=
  ∀ (x : List Int × Int × Unit), Kd.wf (Kd.sl (Kd.int IntKind.u8)) x.fst ∧ Kd.wf (Kd.int IntKind.i64) x.snd.fst ∧ True → lenB x.fst ≤ (100000000 : Nat) → lenB x.fst ≤ (1000000000 : Nat) ∧ (∀
  (y : (Int × List Int) × Int × Unit), Kd.wf (Kd.pair (Kd.int IntKind.i64) (Kd.sl (Kd.int IntKind.u8))) y.fst ∧ Kd.wf (Kd.int IntKind.i64) y.snd.fst ∧ True → (y.fst, y.snd.fst) = oneD x.fst →
  (2 : Nat) ≤ (65536 : Nat) ∧ (decide (y.snd.fst = (0 : Int)) = true → True) ∧ (decide (y.snd.fst = (0 : Int)) = true → (decide (y.snd.fst = (0 : Int)) == true) = true ∧ True) ∧ (decide
  (y.snd.fst = (0 : Int)) = true → True) ∧ (decide (y.snd.fst = (0 : Int)) = true → (decide (y.snd.fst = (0 : Int)) == true) = true ∧ (decide (y.snd.fst = (0 : Int)) == true) = true ∧ True) ∧
  (decide (y.snd.fst = (0 : Int)) = true → (decide (y.snd.fst = (0 : Int)) == true) = true) ∧ y.fst.snd = (oneD x.fst).fst.snd ∧ (bif decide (y.snd.fst = (0 : Int)) then decide (y.fst.fst =
  x.snd.fst) else false) = (decide ((oneD x.fst).snd = (0 : Int)) && decide ((oneD x.fst).fst.fst = x.snd.fst))) ∧ True
theorem e65 : t65 = Con.vc c_name_only GL (mkEnv ty [(42, conSem c_der_One)] [] [] [0, 1, 4, 5, 6, 7]) {} Tryd.f65.ntmps Tryd.f65.results.toList (bodyOf Tryd.f65) := by kernel_rfl
theorem k65 : t65 := by
  unfold t65
  rintro ⟨b, t, _⟩ hx hp
  have hp : b.length ≤ 100000000 := hp
  try dsimp +instances only [dft_int, dft_sl, dft_str]
  simp only [true_and, and_true, eq_self_iff_true, implies_true, reduceCtorEq, false_implies, true_implies, decide_eq_true_eq, decide_eq_false_iff_not, beq_self_eq_true, Bool.not_eq_true', ne_eq, Decidable.not_not, List.nil_append, List.length_singleton, List.length_cons, List.length_nil, Nat.zero_add, Nat.add_zero, Nat.mul_one, and_self, beq_iff_eq, Bool.not_true, Bool.not_false, Bool.not_eq_false', Bool.cond_false_right, Bool.and_eq_true, imp_self, Bool.not_eq_true, Bool.cond_true_left, Bool.or_eq_true]
  refine ⟨by rw [lenB]; omega, ?_⟩
  rintro ⟨x, e, _⟩ _ h
  simp only at h ⊢
  rw [← h]
  exact ⟨by decide, rfl, rfl⟩
theorem h65 : c_name_only.ok Tryd.prog GL 65 := con_ok (H := {}) (mkEnv_ok (gl := GL) (l := [(42, conSem c_der_One)]) (q := []) (d := []) _ tyOk (by kernel_rfl) ⟨h42.call, trivial⟩ trivial trivial) (by kernel_rfl) (by kernel_rfl) (Eq.mp e65 k65)

def t52 : Prop :=
  ∀ (x : Int × List Int × Unit), Kd.wf (Kd.int IntKind.i64) x.fst ∧ Kd.wf (Kd.sl (Kd.int IntKind.u8)) x.snd.fst ∧ True → (0 : Int) ≤ x.fst ∧ x.fst ≤ (255 : Int) ∧ lenB x.snd.fst ≤ (16777215 :
  Nat) → (lenB x.snd.fst ≤ (16777215 : Nat) ∧ (0 : Int) ≤ x.fst ∧ x.fst ≤ (255 : Int)) ∧ (∀ (y : List Int × Unit), Kd.wf (Kd.sl (Kd.int IntKind.u8)) y.fst ∧ True → y.fst = putB (x.fst,
  x.snd.fst) → y.fst = putB (x.fst, x.snd.fst)) ∧ True
theorem e52 : t52 = Con.vc c_r12_put GL (mkEnv ty [(76, conSem c_r01_Bytes)] [] [] [0, 1, 4]) {} Tryd.f52.ntmps Tryd.f52.results.toList (bodyOf Tryd.f52) := by kernel_rfl
theorem k52 : t52 := by
  unfold t52
  rintro ⟨t, c, _⟩ hx hp
  obtain ⟨h1, h2, h3⟩ := hp
  simp only at h1 h2 h3
  try dsimp +instances only [dft_int, dft_sl, dft_str]
  simp only [true_and, and_true, eq_self_iff_true, implies_true, reduceCtorEq, false_implies, true_implies, decide_eq_true_eq, decide_eq_false_iff_not, beq_self_eq_true, Bool.not_eq_true', ne_eq, Decidable.not_not, List.nil_append, List.length_singleton, List.length_cons, List.length_nil, Nat.zero_add, Nat.add_zero, Nat.mul_one, and_self, beq_iff_eq, Bool.not_true, Bool.not_false, Bool.not_eq_false', Bool.cond_false_right, Bool.and_eq_true, imp_self, Bool.not_eq_true, Bool.cond_true_left, Bool.or_eq_true]
  exact ⟨h3, h1, h2⟩
theorem h52 : c_r12_put.ok Tryd.prog GL 52 := con_ok (H := {}) (mkEnv_ok (gl := GL) (l := [(76, conSem c_r01_Bytes)]) (q := []) (d := []) _ tyOk (by kernel_rfl) ⟨h76.call, trivial⟩ trivial trivial) (by kernel_rfl) (by kernel_rfl) (Eq.mp e52 k52)

def t26 : Prop :=
  ∀ (x : List (Int × List Int) × Unit), Kd.wf (Kd.sl (Kd.pair (Kd.int IntKind.i64) Kd.str)) x.fst ∧ True → (List.length x.fst ≤ (1000000000 : Nat) ∧ ∀ (a : Int × List Int), a ∈ x.fst →
  List.length a.snd ≤ (100000000 : Nat)) → (List.length x.fst ≤ (1000000000 : Nat) ∧ ∀ (a : Int × List Int), a ∈ x.fst → List.length a.snd ≤ (100000000 : Nat)) ∧ (∀ (y : Bool × Unit), Kd.wf
  Kd.bool y.fst ∧ True → y.fst = mayN x.fst → ((!y.fst) = true → ([], (120 : Int)) = EncN x.fst) ∧ ((!y.fst) = false → ∃ (I : Int × Unit → List Int × Unit → Prop), ∃ (μ : Int × Unit → List
  Int × Unit → Nat), (Value.bool false = Value.bool false ∧ (0 : Int) = (0 : Int) ∧ Value.slice none (0 : Nat) (0 : Nat) = Value.slice none (0 : Nat) (0 : Nat) ∧ x.fst = x.fst ∧ I ((0 : Int),
  ()) ([], ())) ∧ ∀ (y : Int × Unit) (z : List Int × Unit), Kd.wf (Kd.int IntKind.i64) y.fst ∧ True → Kd.wf (Kd.sl (Kd.int IntKind.u8)) z.fst ∧ True → I y z → (decide (y.fst < (↑(List.length
  x.fst) : Int)) = true → ((0 : Int) ≤ y.fst ∧ y.fst < (↑(List.length x.fst) : Int)) ∧ True ∧ (∀ (y_1 : List Int × Int × Unit), Kd.wf (Kd.sl (Kd.int IntKind.u8)) y_1.fst ∧ Kd.wf (Kd.int
  IntKind.i64) y_1.snd.fst ∧ True → (y_1.fst, y_1.snd.fst) = EncO [(2 : Int), (5 : Int), (4 : Int), (List.getD x.fst (Int.toNat y.fst) (Kd.dft (Kd.pair (Kd.int IntKind.i64) Kd.str))).fst] →
  ((0 : Int) ≤ y.fst ∧ y.fst < (↑(List.length x.fst) : Int)) ∧ List.length (List.getD x.fst (Int.toNat y.fst) (Kd.dft (Kd.pair (Kd.int IntKind.i64) Kd.str))).snd ≤ (1000000000 : Nat) ∧ (∀
  (y_2 : Int × Int × Unit), Kd.wf (Kd.int IntKind.i64) y_2.fst ∧ Kd.wf (Kd.int IntKind.i64) y_2.snd.fst ∧ True → y_2.fst = (kindD (List.getD x.fst (Int.toNat y.fst) (Kd.dft (Kd.pair (Kd.int
  IntKind.i64) Kd.str))).snd).fst ∧ y_2.snd.fst = (kindD (List.getD x.fst (Int.toNat y.fst) (Kd.dft (Kd.pair (Kd.int IntKind.i64) Kd.str))).snd).snd → ((0 : Int) ≤ y.fst ∧ y.fst <
  (↑(List.length x.fst) : Int)) ∧ (((0 : Int) ≤ (6 : Int) ∧ (6 : Int) ≤ (255 : Int) ∧ lenB y_1.fst ≤ (16777215 : Nat)) ∧ (∀ (y_3 : List Int × Unit), Kd.wf (Kd.sl (Kd.int IntKind.u8)) y_3.fst
  ∧ True → y_3.fst = putB ((6 : Int), y_1.fst) → (((((0 : Int) ≤ y_2.fst ∧ y_2.fst ≤ (255 : Int) ∧ lenB (List.getD x.fst (Int.toNat y.fst) (Kd.dft (Kd.pair (Kd.int IntKind.i64) Kd.str))).snd
  ≤ (16777215 : Nat)) ∧ (∀ (y_4 : List Int × Unit), Kd.wf (Kd.sl (Kd.int IntKind.u8)) y_4.fst ∧ True → y_4.fst = putB (y_2.fst, (List.getD x.fst (Int.toNat y.fst) (Kd.dft (Kd.pair (Kd.int
  IntKind.i64) Kd.str))).snd) → ((0 : Nat) < (1 : Nat) ∧ (List.length y_3.fst + List.length y_4.fst) * (1 : Nat) ≤ (140737488355328 : Nat) ∧ List.length y_3.fst + List.length y_4.fst ≤
  (9223372036854775807 : Nat) ∧ ((0 : Int) ≤ (48 : Int) ∧ (48 : Int) ≤ (255 : Int) ∧ lenB (y_3.fst ++ y_4.fst) ≤ (16777215 : Nat)) ∧ (∀ (y_5 : List Int × Unit), Kd.wf (Kd.sl (Kd.int
  IntKind.u8)) y_5.fst ∧ True → y_5.fst = putB ((48 : Int), y_3.fst ++ y_4.fst) → ((0 : Int) ≤ (49 : Int) ∧ (49 : Int) ≤ (255 : Int) ∧ lenB y_5.fst ≤ (16777215 : Nat)) ∧ (∀ (y_6 : List Int ×
  Unit), Kd.wf (Kd.sl (Kd.int IntKind.u8)) y_6.fst ∧ True → y_6.fst = putB ((49 : Int), y_5.fst) → (0 : Nat) < (1 : Nat) ∧ (List.length z.fst + List.length y_6.fst) * (1 : Nat) ≤
  (140737488355328 : Nat) ∧ List.length z.fst + List.length y_6.fst ≤ (9223372036854775807 : Nat) ∧ Value.bool false = Value.bool false ∧ (0 : Int) = (0 : Int) ∧ Value.slice none (0 : Nat) (0
  : Nat) = Value.slice none (0 : Nat) (0 : Nat) ∧ x.fst = x.fst ∧ I (IntKind.wrap IntKind.i64 (y.fst + (1 : Int)), ()) (z.fst ++ y_6.fst, ()) ∧ μ (IntKind.wrap IntKind.i64 (y.fst + (1 :
  Int)), ()) (z.fst ++ y_6.fst, ()) < μ y z) ∧ True) ∧ True) ∧ True) ∧ True) ∧ True) ∧ True) ∧ True) ∧ True) ∧ ((((0 : Int) ≤ (6 : Int) ∧ (6 : Int) ≤ (255 : Int) ∧ lenB y_1.fst ≤ (16777215 :
  Nat)) ∧ (∀ (y_3 : List Int × Unit), Kd.wf (Kd.sl (Kd.int IntKind.u8)) y_3.fst ∧ True → y_3.fst = putB ((6 : Int), y_1.fst) → ((((0 : Int) ≤ y_2.fst ∧ y_2.fst ≤ (255 : Int) ∧ lenB (List.getD
  x.fst (Int.toNat y.fst) (Kd.dft (Kd.pair (Kd.int IntKind.i64) Kd.str))).snd ≤ (16777215 : Nat)) ∧ (∀ (y_4 : List Int × Unit), Kd.wf (Kd.sl (Kd.int IntKind.u8)) y_4.fst ∧ True → y_4.fst =
  putB (y_2.fst, (List.getD x.fst (Int.toNat y.fst) (Kd.dft (Kd.pair (Kd.int IntKind.i64) Kd.str))).snd) → ((0 : Nat) < (1 : Nat) ∧ (List.length y_3.fst + List.length y_4.fst) * (1 : Nat) ≤
  (140737488355328 : Nat) ∧ List.length y_3.fst + List.length y_4.fst ≤ (9223372036854775807 : Nat) ∧ ((0 : Int) ≤ (48 : Int) ∧ (48 : Int) ≤ (255 : Int) ∧ lenB (y_3.fst ++ y_4.fst) ≤
  (16777215 : Nat)) ∧ (∀ (y_5 : List Int × Unit), Kd.wf (Kd.sl (Kd.int IntKind.u8)) y_5.fst ∧ True → y_5.fst = putB ((48 : Int), y_3.fst ++ y_4.fst) → ((0 : Int) ≤ (49 : Int) ∧ (49 : Int) ≤
  (255 : Int) ∧ lenB y_5.fst ≤ (16777215 : Nat)) ∧ (∀ (y_6 : List Int × Unit), Kd.wf (Kd.sl (Kd.int IntKind.u8)) y_6.fst ∧ True → y_6.fst = putB ((49 : Int), y_5.fst) → (0 : Nat) < (1 : Nat)
  ∧ (List.length z.fst + List.length y_6.fst) * (1 : Nat) ≤ (140737488355328 : Nat) ∧ List.length z.fst + List.length y_6.fst ≤ (9223372036854775807 : Nat) ∧ Value.bool false = Value.bool
  false ∧ (0 : Int) = (0 : Int) ∧ Value.slice none (0 : Nat) (0 : Nat) = Value.slice none (0 : Nat) (0 : Nat) ∧ x.fst = x.fst ∧ I (IntKind.wrap IntKind.i64 (y.fst + (1 : Int)), ()) (z.fst ++
  y_6.fst, ()) ∧ μ (IntKind.wrap IntKind.i64 (y.fst + (1 : Int)), ()) (z.fst ++ y_6.fst, ()) < μ y z) ∧ True) ∧ True) ∧ True) ∧ True) ∧ True) ∧ True) ∧ True) ∧ ((((0 : Int) ≤ (6 : Int) ∧ (6 :
  Int) ≤ (255 : Int) ∧ lenB y_1.fst ≤ (16777215 : Nat)) ∧ (∀ (y_3 : List Int × Unit), Kd.wf (Kd.sl (Kd.int IntKind.u8)) y_3.fst ∧ True → y_3.fst = putB ((6 : Int), y_1.fst) → (((0 : Int) ≤
  y_2.fst ∧ y_2.fst ≤ (255 : Int) ∧ lenB (List.getD x.fst (Int.toNat y.fst) (Kd.dft (Kd.pair (Kd.int IntKind.i64) Kd.str))).snd ≤ (16777215 : Nat)) ∧ (∀ (y_4 : List Int × Unit), Kd.wf (Kd.sl
  (Kd.int IntKind.u8)) y_4.fst ∧ True → y_4.fst = putB (y_2.fst, (List.getD x.fst (Int.toNat y.fst) (Kd.dft (Kd.pair (Kd.int IntKind.i64) Kd.str))).snd) → ((0 : Nat) < (1 : Nat) ∧
  (List.length y_3.fst + List.length y_4.fst) * (1 : Nat) ≤ (140737488355328 : Nat) ∧ List.length y_3.fst + List.length y_4.fst ≤ (9223372036854775807 : Nat) ∧ ((0 : Int) ≤ (48 : Int) ∧ (48 :
  Int) ≤ (255 : Int) ∧ lenB (y_3.fst ++ y_4.fst) ≤ (16777215 : Nat)) ∧ (∀ (y_5 : List Int × Unit), Kd.wf (Kd.sl (Kd.int IntKind.u8)) y_5.fst ∧ True → y_5.fst = putB ((48 : Int), y_3.fst ++
  y_4.fst) → ((0 : Int) ≤ (49 : Int) ∧ (49 : Int) ≤ (255 : Int) ∧ lenB y_5.fst ≤ (16777215 : Nat)) ∧ (∀ (y_6 : List Int × Unit), Kd.wf (Kd.sl (Kd.int IntKind.u8)) y_6.fst ∧ True → y_6.fst =
  putB ((49 : Int), y_5.fst) → (0 : Nat) < (1 : Nat) ∧ (List.length z.fst + List.length y_6.fst) * (1 : Nat) ≤ (140737488355328 : Nat) ∧ List.length z.fst + List.length y_6.fst ≤
  (9223372036854775807 : Nat) ∧ Value.bool false = Value.bool false ∧ (0 : Int) = (0 : Int) ∧ Value.slice none (0 : Nat) (0 : Nat) = Value.slice none (0 : Nat) (0 : Nat) ∧ x.fst = x.fst ∧ I
  (IntKind.wrap IntKind.i64 (y.fst + (1 : Int)), ()) (z.fst ++ y_6.fst, ()) ∧ μ (IntKind.wrap IntKind.i64 (y.fst + (1 : Int)), ()) (z.fst ++ y_6.fst, ()) < μ y z) ∧ True) ∧ True) ∧ True) ∧
  True) ∧ True) ∧ True) ∧ True) ∧ True) ∧ True) ∧ True) ∧ True) ∧ (decide (y.fst < (↑(List.length x.fst) : Int)) = false → ((0 : Int) ≤ (48 : Int) ∧ (48 : Int) ≤ (255 : Int) ∧ lenB z.fst ≤
  (16777215 : Nat)) ∧ (∀ (y : List Int × Unit), Kd.wf (Kd.sl (Kd.int IntKind.u8)) y.fst ∧ True → y.fst = putB ((48 : Int), z.fst) → (y.fst, (0 : Int)) = EncN x.fst) ∧ True))) ∧ True
theorem e26 : t26 = Con.vc c_r12_Encode GL (mkEnv ty [(30, conSem c_r12_May), (50, conSem c_r03_Encode), (51, conSem c_r05_Kind), (52, conSem c_r12_put)] [] [] [0, 2, 3, 4, 5, 6, 8, 10, 13, 17]) {} Tryd.f26.ntmps Tryd.f26.results.toList (bodyOf Tryd.f26) := by kernel_rfl
theorem k26 : t26 := by
  unfold t26
  rintro ⟨n, _⟩ hx hp
  have hp2 := hp
  obtain ⟨h1, h2⟩ := hp2
  simp only at h1 h2
  try dsimp +instances only [dft_int, dft_sl, dft_str]
  simp only [true_and, and_true, eq_self_iff_true, implies_true, reduceCtorEq, false_implies, true_implies, decide_eq_true_eq, decide_eq_false_iff_not, beq_self_eq_true, Bool.not_eq_true', ne_eq, Decidable.not_not, List.nil_append, List.length_singleton, List.length_cons, List.length_nil, Nat.zero_add, Nat.add_zero, Nat.mul_one, and_self, beq_iff_eq, Bool.not_true, Bool.not_false, Bool.not_eq_false', Bool.cond_false_right, Bool.and_eq_true, imp_self, Bool.not_eq_true, Bool.cond_true_left, Bool.or_eq_true]
  simp only [adft_eq4]
  refine ⟨⟨h1, h2⟩, ?_⟩
  rintro ⟨m, _⟩ _ em
  simp only at em ⊢
  subst em
  refine ⟨fun h => by rw [EncN, if_neg (by rw [h]; decide)], fun h => ?_⟩
  obtain ⟨h16, hA⟩ := mayN_args h
  have hfl : ∀ i, ((n.take i).flatMap attrE).length ≤ 1200 := fun i => by
    have := flat_len (n.take i) fun a ha => hA a (List.mem_of_mem_take ha)
    have : (n.take i).length ≤ n.length := by rw [List.length_take]; omega
    omega
  refine ⟨fun y z => 0 ≤ y.1 ∧ y.1 ≤ n.length ∧ z.1 = (n.take y.1.toNat).flatMap attrE, fun y _ => ((n.length : Int) - y.1).toNat, ⟨Int.le_refl 0, by simp only; omega, rfl⟩, ?_⟩
  rintro ⟨i, _⟩ ⟨z, _⟩ _ _ ⟨i0, i1, ez⟩
  simp only at i0 i1 ez ⊢
  have hzl := hfl i.toNat
  rw [← ez] at hzl
  refine ⟨fun hlt => ⟨⟨i0, hlt⟩, ?_⟩, fun hge => ?_⟩
  · have hm := hA _ (mem_getD adft n i.toNat (by omega))
    have hst : (n.take (i.toNat + 1)).flatMap attrE = z ++ attrE (n.getD i.toNat adft) := by rw [take_snocA adft n _ (by omega), List.flatMap_append, ← ez]; simp
    generalize n.getD i.toNat adft = a at hm hst
    have hv := mayA_len hm
    have hk := (may_kind hm).2
    have hB := attrB_len hm
    have hE := attrE_len hm
    have p1 : (putB (6, [85, 4, a.1])).length = 5 := put_small (x := (6, [85, 4, a.1])) (by simp)
    have p2 : (putB (elK a)).length = 2 + a.2.length := put_small (x := elK a) (by show a.2.length < 128; omega)
    rintro ⟨o, f, _⟩ _ eo
    simp only at eo ⊢
    rw [enc_oid hm] at eo
    obtain ⟨rfl, rfl⟩ := Prod.mk.inj eo
    refine ⟨⟨i0, hlt⟩, by omega, ?_⟩
    rintro ⟨k, e, _⟩ _ ⟨ek, ee⟩
    simp only at ek ee ⊢
    refine ⟨⟨i0, hlt⟩, ⟨by decide, by decide, by simp [lenB]⟩, ?_⟩
    rintro ⟨w1, _⟩ _ e1
    simp only at e1 ⊢
    subst e1
    refine ⟨⟨by omega, by omega, by rw [lenB]; omega⟩, ?_⟩
    rintro ⟨w2, _⟩ _ e2
    simp only at e2 ⊢
    rw [ek] at e2
    have e2 : w2 = putB (elK a) := e2
    subst e2
    refine ⟨by decide, by omega, by omega, ⟨by decide, by decide, by rw [lenB, List.length_append]; omega⟩, ?_⟩
    rintro ⟨w3, _⟩ _ e3
    simp only at e3 ⊢
    have e3 : w3 = attrB a := e3
    subst e3
    refine ⟨⟨by decide, by decide, by rw [lenB]; omega⟩, ?_⟩
    rintro ⟨w4, _⟩ _ e4
    simp only at e4 ⊢
    have e4 : w4 = attrE a := e4
    subst e4
    rw [wrapK (i + 1) (by omega) (by omega)]
    refine ⟨by decide, by omega, by omega, ⟨by omega, by omega, ?_⟩, by omega⟩
    rw [show (i + 1).toNat = i.toNat + 1 by omega, hst]
  · have ezz : z = n.flatMap attrE := by rw [ez, List.take_of_length_le (by omega)]
    refine ⟨⟨by decide, by decide, by rw [lenB]; omega⟩, ?_⟩
    rintro ⟨w, _⟩ _ ew
    simp only at ew ⊢
    rw [ew, ezz, EncN, if_pos h]
    rfl
theorem h26 : c_r12_Encode.ok Tryd.prog GL 26 := con_ok (H := {}) (mkEnv_ok (gl := GL) (l := [(30, conSem c_r12_May), (50, conSem c_r03_Encode), (51, conSem c_r05_Kind), (52, conSem c_r12_put)]) (q := []) (d := []) _ tyOk (by kernel_rfl) ⟨h30.call, h50.call, h51.call, h52.call, trivial⟩ trivial trivial) (by kernel_rfl) (by kernel_rfl) (Eq.mp e26 k26)

def t69 : Prop :=
  ∀ (x : List Int × Int × Unit), Kd.wf (Kd.sl (Kd.int IntKind.u8)) x.fst ∧ Kd.wf (Kd.int IntKind.i64) x.snd.fst ∧ True → lenB x.fst ≤ (100000000 : Nat) → lenB x.fst ≤ (1000000000 : Nat) ∧ (∀
  (y : (Int × List Int) × Int × Unit), Kd.wf (Kd.pair (Kd.int IntKind.i64) (Kd.sl (Kd.int IntKind.u8))) y.fst ∧ Kd.wf (Kd.int IntKind.i64) y.snd.fst ∧ True → (y.fst, y.snd.fst) = oneD x.fst →
  (2 : Nat) ≤ (65536 : Nat) ∧ (decide (y.snd.fst ≠ (0 : Int)) = false → True) ∧ (decide (y.snd.fst ≠ (0 : Int)) = false → (decide (y.snd.fst ≠ (0 : Int)) == false) = true ∧ True) ∧ (decide
  (y.snd.fst ≠ (0 : Int)) = false → True) ∧ (decide (y.snd.fst ≠ (0 : Int)) = false → (decide (y.snd.fst ≠ (0 : Int)) == false) = true ∧ (decide (y.snd.fst ≠ (0 : Int)) == false) = true ∧
  True) ∧ (decide (y.snd.fst ≠ (0 : Int)) = false → (decide (y.snd.fst ≠ (0 : Int)) == false) = true) ∧ ((bif decide (y.snd.fst ≠ (0 : Int)) then true else decide (y.fst.fst ≠ x.snd.fst)) =
  true → ([], false) = insD x.fst x.snd.fst) ∧ ((bif decide (y.snd.fst ≠ (0 : Int)) then true else decide (y.fst.fst ≠ x.snd.fst)) = false → lenB y.fst.snd ≤ (1000000000 : Nat) ∧ (∀ (y_1 :
  List (Int × List Int) × Int × Int × Unit), Kd.wf (Kd.sl (Kd.pair (Kd.int IntKind.i64) (Kd.sl (Kd.int IntKind.u8)))) y_1.fst ∧ Kd.wf (Kd.int IntKind.i64) y_1.snd.fst ∧ Kd.wf (Kd.int
  IntKind.i64) y_1.snd.snd.fst ∧ True → (y_1.fst, y_1.snd.fst, y_1.snd.snd.fst) = allD y.fst.snd → (y_1.fst, decide (y_1.snd.snd.fst = (0 : Int))) = insD x.fst x.snd.fst) ∧ True)) ∧ True
theorem e69 : t69 = Con.vc c_r12_inside GL (mkEnv ty [(45, conSem c_r01_One), (95, conSem c_r01_All)] [] [] [0, 1, 4, 5, 6, 7, 8, 22]) {} Tryd.f69.ntmps Tryd.f69.results.toList (bodyOf Tryd.f69) := by kernel_rfl
theorem k69 : t69 := by
  unfold t69
  rintro ⟨b, t, _⟩ hx hp
  have hp : b.length ≤ 100000000 := hp
  try dsimp +instances only [dft_int, dft_sl, dft_str]
  simp only [true_and, and_true, eq_self_iff_true, implies_true, reduceCtorEq, false_implies, true_implies, decide_eq_true_eq, decide_eq_false_iff_not, beq_self_eq_true, Bool.not_eq_true', ne_eq, Decidable.not_not, List.nil_append, List.length_singleton, List.length_cons, List.length_nil, Nat.zero_add, Nat.add_zero, Nat.mul_one, and_self, beq_iff_eq, Bool.not_true, Bool.not_false, Bool.not_eq_false', Bool.cond_false_right, Bool.and_eq_true, imp_self, Bool.not_eq_true, Bool.cond_true_left, Bool.or_eq_true]
  have hol := oneD_len b
  refine ⟨by rw [lenB]; omega, ?_⟩
  rintro ⟨x, e, _⟩ _ h
  simp only at h ⊢
  rw [insD, ← h]
  rw [← h] at hol
  refine ⟨by decide, fun h2 => by rw [if_pos h2], fun h2 => ⟨by rw [lenB]; simp only at hol; omega, ?_⟩⟩
  simp only [Bool.or_eq_false_iff, decide_eq_false_iff_not] at h2
  rintro ⟨l, n, e2, _⟩ _ el
  simp only at el ⊢
  rw [if_neg (fun hh => hh.elim h2.1 h2.2), ← el]
theorem h69 : c_r12_inside.ok Tryd.prog GL 69 := con_ok (H := {}) (mkEnv_ok (gl := GL) (l := [(45, conSem c_r01_One), (95, conSem c_r01_All)]) (q := []) (d := []) _ tyOk (by kernel_rfl) ⟨h45.call, h95.call, trivial⟩ trivial trivial) (by kernel_rfl) (by kernel_rfl) (Eq.mp e69 k69)

def t46 : Prop :=
  ∀ (x : List Int × Unit), Kd.wf (Kd.sl (Kd.int IntKind.u8)) x.fst ∧ True → lenB x.fst ≤ (100000000 : Nat) → lenB x.fst ≤ (100000000 : Nat) ∧ (∀ (y : List (Int × List Int) × Bool × Unit),
  Kd.wf (Kd.sl (Kd.pair (Kd.int IntKind.i64) (Kd.sl (Kd.int IntKind.u8)))) y.fst ∧ Kd.wf Kd.bool y.snd.fst ∧ True → (y.fst, y.snd.fst) = insD x.fst (48 : Int) → ∃ (I : Int × Unit → List (Int
  × List Int) × List (Int × List Int) × Unit → Prop), ∃ (μ : Int × Unit → List (Int × List Int) × List (Int × List Int) × Unit → Nat), (x.fst = x.fst ∧ y.fst = y.fst ∧ I ((0 : Int), ()) ([],
  [], ())) ∧ ∀ (y_1 : Int × Unit) (z : List (Int × List Int) × List (Int × List Int) × Unit), Kd.wf (Kd.int IntKind.i64) y_1.fst ∧ True → Kd.wf (Kd.sl (Kd.pair (Kd.int IntKind.i64) Kd.str))
  z.fst ∧ Kd.wf (Kd.sl (Kd.pair (Kd.int IntKind.i64) Kd.str)) z.snd.fst ∧ True → I y_1 z → (decide (y_1.fst < (↑(List.length y.fst) : Int)) = true → ((0 : Int) ≤ y_1.fst ∧ y_1.fst <
  (↑(List.length y.fst) : Int)) ∧ lenB (List.getD y.fst (Int.toNat y_1.fst) (Kd.dft (Kd.pair (Kd.int IntKind.i64) (Kd.sl (Kd.int IntKind.u8))))).snd ≤ (100000000 : Nat) ∧ (∀ (y_2 : List (Int
  × List Int) × Bool × Unit), Kd.wf (Kd.sl (Kd.pair (Kd.int IntKind.i64) (Kd.sl (Kd.int IntKind.u8)))) y_2.fst ∧ Kd.wf Kd.bool y_2.snd.fst ∧ True → (y_2.fst, y_2.snd.fst) = insD (List.getD
  y.fst (Int.toNat y_1.fst) (Kd.dft (Kd.pair (Kd.int IntKind.i64) (Kd.sl (Kd.int IntKind.u8))))).snd (48 : Int) → ((!y_2.snd.fst) = false → True) ∧ ((!y_2.snd.fst) = false → ((!y_2.snd.fst)
  == false) = true ∧ True) ∧ ((!y_2.snd.fst) = false → ((!y_2.snd.fst) == false) = true ∧ True) ∧ ((!y_2.snd.fst) = false → ((!y_2.snd.fst) == false) = true) ∧ ((bif !y_2.snd.fst then true
  else decide ((↑(List.length y_2.fst) : Int) ≠ (2 : Int))) = false → True) ∧ ((bif !y_2.snd.fst then true else decide ((↑(List.length y_2.fst) : Int) ≠ (2 : Int))) = false → ((bif
  !y_2.snd.fst then true else decide ((↑(List.length y_2.fst) : Int) ≠ (2 : Int))) == false) = true ∧ ((0 : Int) ≤ (0 : Int) ∧ (0 : Int) < (↑(List.length y_2.fst) : Int)) ∧ True) ∧ ((bif
  !y_2.snd.fst then true else decide ((↑(List.length y_2.fst) : Int) ≠ (2 : Int))) = false → ((bif !y_2.snd.fst then true else decide ((↑(List.length y_2.fst) : Int) ≠ (2 : Int))) == false) =
  true ∧ True) ∧ ((bif !y_2.snd.fst then true else decide ((↑(List.length y_2.fst) : Int) ≠ (2 : Int))) = false → ((bif !y_2.snd.fst then true else decide ((↑(List.length y_2.fst) : Int) ≠ (2
  : Int))) == false) = true ∧ True) ∧ ((bif !y_2.snd.fst then true else decide ((↑(List.length y_2.fst) : Int) ≠ (2 : Int))) = false → ((bif !y_2.snd.fst then true else decide ((↑(List.length
  y_2.fst) : Int) ≠ (2 : Int))) == false) = true ∧ True) ∧ ((bif !y_2.snd.fst then true else decide ((↑(List.length y_2.fst) : Int) ≠ (2 : Int))) = false → ((bif !y_2.snd.fst then true else
  decide ((↑(List.length y_2.fst) : Int) ≠ (2 : Int))) == false) = true ∧ True) ∧ ((bif !y_2.snd.fst then true else decide ((↑(List.length y_2.fst) : Int) ≠ (2 : Int))) = false → ((bif
  !y_2.snd.fst then true else decide ((↑(List.length y_2.fst) : Int) ≠ (2 : Int))) == false) = true) ∧ ((bif bif !y_2.snd.fst then true else decide ((↑(List.length y_2.fst) : Int) ≠ (2 :
  Int)) then true else decide ((↑(List.length (List.getD y_2.fst (0 : Nat) (Kd.dft (Kd.pair (Kd.int IntKind.i64) (Kd.sl (Kd.int IntKind.u8))))).snd) : Int) ≠ (3 : Int))) = true → [] = guessD
  x.fst) ∧ ((bif bif !y_2.snd.fst then true else decide ((↑(List.length y_2.fst) : Int) ≠ (2 : Int)) then true else decide ((↑(List.length (List.getD y_2.fst (0 : Nat) (Kd.dft (Kd.pair
  (Kd.int IntKind.i64) (Kd.sl (Kd.int IntKind.u8))))).snd) : Int) ≠ (3 : Int))) = false → ((0 : Int) ≤ (0 : Int) ∧ (0 : Int) < (↑(List.length y_2.fst) : Int)) ∧ ((0 : Int) ≤ (1 : Int) ∧ (1 :
  Int) < (↑(List.length y_2.fst) : Int)) ∧ (((0 : Int) ≤ (2 : Int) ∧ (2 : Int) < (↑(List.length (List.getD y_2.fst (0 : Nat) (Kd.dft (Kd.pair (Kd.int IntKind.i64) (Kd.sl (Kd.int
  IntKind.u8))))).snd) : Int)) ∧ ((((((((0 : Nat) < (2 : Nat) ∧ (List.length z.fst + List.length [(IntKind.wrap IntKind.i64 (List.getD (List.getD y_2.fst (0 : Nat) (Kd.dft (Kd.pair (Kd.int
  IntKind.i64) (Kd.sl (Kd.int IntKind.u8))))).snd (2 : Nat) (Kd.dft (Kd.int IntKind.u8))), (List.getD y_2.fst (1 : Nat) (Kd.dft (Kd.pair (Kd.int IntKind.i64) (Kd.sl (Kd.int
  IntKind.u8))))).snd)]) * (24 : Nat) ≤ (140737488355328 : Nat) ∧ List.length z.fst + List.length [(IntKind.wrap IntKind.i64 (List.getD (List.getD y_2.fst (0 : Nat) (Kd.dft (Kd.pair (Kd.int
  IntKind.i64) (Kd.sl (Kd.int IntKind.u8))))).snd (2 : Nat) (Kd.dft (Kd.int IntKind.u8))), (List.getD y_2.fst (1 : Nat) (Kd.dft (Kd.pair (Kd.int IntKind.i64) (Kd.sl (Kd.int
  IntKind.u8))))).snd)] ≤ (9223372036854775807 : Nat) ∧ x.fst = x.fst ∧ y.fst = y.fst ∧ I (IntKind.wrap IntKind.i64 (y_1.fst + (1 : Int)), ()) (z.fst ++ [(IntKind.wrap IntKind.i64 (List.getD
  (List.getD y_2.fst (0 : Nat) (Kd.dft (Kd.pair (Kd.int IntKind.i64) (Kd.sl (Kd.int IntKind.u8))))).snd (2 : Nat) (Kd.dft (Kd.int IntKind.u8))), (List.getD y_2.fst (1 : Nat) (Kd.dft (Kd.pair
  (Kd.int IntKind.i64) (Kd.sl (Kd.int IntKind.u8))))).snd)], z.snd.fst, ()) ∧ μ (IntKind.wrap IntKind.i64 (y_1.fst + (1 : Int)), ()) (z.fst ++ [(IntKind.wrap IntKind.i64 (List.getD (List.getD
  y_2.fst (0 : Nat) (Kd.dft (Kd.pair (Kd.int IntKind.i64) (Kd.sl (Kd.int IntKind.u8))))).snd (2 : Nat) (Kd.dft (Kd.int IntKind.u8))), (List.getD y_2.fst (1 : Nat) (Kd.dft (Kd.pair (Kd.int
  IntKind.i64) (Kd.sl (Kd.int IntKind.u8))))).snd)], z.snd.fst, ()) < μ y_1 z) ∧ True) ∧ True) ∧ True) ∧ True) ∧ True) ∧ (((((((0 : Nat) < (2 : Nat) ∧ (List.length z.fst + List.length
  [(IntKind.wrap IntKind.i64 (List.getD (List.getD y_2.fst (0 : Nat) (Kd.dft (Kd.pair (Kd.int IntKind.i64) (Kd.sl (Kd.int IntKind.u8))))).snd (2 : Nat) (Kd.dft (Kd.int IntKind.u8))),
  (List.getD y_2.fst (1 : Nat) (Kd.dft (Kd.pair (Kd.int IntKind.i64) (Kd.sl (Kd.int IntKind.u8))))).snd)]) * (24 : Nat) ≤ (140737488355328 : Nat) ∧ List.length z.fst + List.length
  [(IntKind.wrap IntKind.i64 (List.getD (List.getD y_2.fst (0 : Nat) (Kd.dft (Kd.pair (Kd.int IntKind.i64) (Kd.sl (Kd.int IntKind.u8))))).snd (2 : Nat) (Kd.dft (Kd.int IntKind.u8))),
  (List.getD y_2.fst (1 : Nat) (Kd.dft (Kd.pair (Kd.int IntKind.i64) (Kd.sl (Kd.int IntKind.u8))))).snd)] ≤ (9223372036854775807 : Nat) ∧ x.fst = x.fst ∧ y.fst = y.fst ∧ I (IntKind.wrap
  IntKind.i64 (y_1.fst + (1 : Int)), ()) (z.fst ++ [(IntKind.wrap IntKind.i64 (List.getD (List.getD y_2.fst (0 : Nat) (Kd.dft (Kd.pair (Kd.int IntKind.i64) (Kd.sl (Kd.int IntKind.u8))))).snd
  (2 : Nat) (Kd.dft (Kd.int IntKind.u8))), (List.getD y_2.fst (1 : Nat) (Kd.dft (Kd.pair (Kd.int IntKind.i64) (Kd.sl (Kd.int IntKind.u8))))).snd)], z.snd.fst, ()) ∧ μ (IntKind.wrap
  IntKind.i64 (y_1.fst + (1 : Int)), ()) (z.fst ++ [(IntKind.wrap IntKind.i64 (List.getD (List.getD y_2.fst (0 : Nat) (Kd.dft (Kd.pair (Kd.int IntKind.i64) (Kd.sl (Kd.int IntKind.u8))))).snd
  (2 : Nat) (Kd.dft (Kd.int IntKind.u8))), (List.getD y_2.fst (1 : Nat) (Kd.dft (Kd.pair (Kd.int IntKind.i64) (Kd.sl (Kd.int IntKind.u8))))).snd)], z.snd.fst, ()) < μ y_1 z) ∧ True) ∧ True) ∧
  True) ∧ True) ∧ ((((((0 : Nat) < (2 : Nat) ∧ (List.length z.fst + List.length [(IntKind.wrap IntKind.i64 (List.getD (List.getD y_2.fst (0 : Nat) (Kd.dft (Kd.pair (Kd.int IntKind.i64) (Kd.sl
  (Kd.int IntKind.u8))))).snd (2 : Nat) (Kd.dft (Kd.int IntKind.u8))), (List.getD y_2.fst (1 : Nat) (Kd.dft (Kd.pair (Kd.int IntKind.i64) (Kd.sl (Kd.int IntKind.u8))))).snd)]) * (24 : Nat) ≤
  (140737488355328 : Nat) ∧ List.length z.fst + List.length [(IntKind.wrap IntKind.i64 (List.getD (List.getD y_2.fst (0 : Nat) (Kd.dft (Kd.pair (Kd.int IntKind.i64) (Kd.sl (Kd.int
  IntKind.u8))))).snd (2 : Nat) (Kd.dft (Kd.int IntKind.u8))), (List.getD y_2.fst (1 : Nat) (Kd.dft (Kd.pair (Kd.int IntKind.i64) (Kd.sl (Kd.int IntKind.u8))))).snd)] ≤ (9223372036854775807 :
  Nat) ∧ x.fst = x.fst ∧ y.fst = y.fst ∧ I (IntKind.wrap IntKind.i64 (y_1.fst + (1 : Int)), ()) (z.fst ++ [(IntKind.wrap IntKind.i64 (List.getD (List.getD y_2.fst (0 : Nat) (Kd.dft (Kd.pair
  (Kd.int IntKind.i64) (Kd.sl (Kd.int IntKind.u8))))).snd (2 : Nat) (Kd.dft (Kd.int IntKind.u8))), (List.getD y_2.fst (1 : Nat) (Kd.dft (Kd.pair (Kd.int IntKind.i64) (Kd.sl (Kd.int
  IntKind.u8))))).snd)], z.snd.fst, ()) ∧ μ (IntKind.wrap IntKind.i64 (y_1.fst + (1 : Int)), ()) (z.fst ++ [(IntKind.wrap IntKind.i64 (List.getD (List.getD y_2.fst (0 : Nat) (Kd.dft (Kd.pair
  (Kd.int IntKind.i64) (Kd.sl (Kd.int IntKind.u8))))).snd (2 : Nat) (Kd.dft (Kd.int IntKind.u8))), (List.getD y_2.fst (1 : Nat) (Kd.dft (Kd.pair (Kd.int IntKind.i64) (Kd.sl (Kd.int
  IntKind.u8))))).snd)], z.snd.fst, ()) < μ y_1 z) ∧ True) ∧ True) ∧ True) ∧ True) ∧ True) ∧ True) ∧ ((((((((0 : Nat) < (2 : Nat) ∧ (List.length z.fst + List.length [(IntKind.wrap IntKind.i64
  (List.getD (List.getD y_2.fst (0 : Nat) (Kd.dft (Kd.pair (Kd.int IntKind.i64) (Kd.sl (Kd.int IntKind.u8))))).snd (2 : Nat) (Kd.dft (Kd.int IntKind.u8))), (List.getD y_2.fst (1 : Nat)
  (Kd.dft (Kd.pair (Kd.int IntKind.i64) (Kd.sl (Kd.int IntKind.u8))))).snd)]) * (24 : Nat) ≤ (140737488355328 : Nat) ∧ List.length z.fst + List.length [(IntKind.wrap IntKind.i64 (List.getD
  (List.getD y_2.fst (0 : Nat) (Kd.dft (Kd.pair (Kd.int IntKind.i64) (Kd.sl (Kd.int IntKind.u8))))).snd (2 : Nat) (Kd.dft (Kd.int IntKind.u8))), (List.getD y_2.fst (1 : Nat) (Kd.dft (Kd.pair
  (Kd.int IntKind.i64) (Kd.sl (Kd.int IntKind.u8))))).snd)] ≤ (9223372036854775807 : Nat) ∧ x.fst = x.fst ∧ y.fst = y.fst ∧ I (IntKind.wrap IntKind.i64 (y_1.fst + (1 : Int)), ()) (z.fst ++
  [(IntKind.wrap IntKind.i64 (List.getD (List.getD y_2.fst (0 : Nat) (Kd.dft (Kd.pair (Kd.int IntKind.i64) (Kd.sl (Kd.int IntKind.u8))))).snd (2 : Nat) (Kd.dft (Kd.int IntKind.u8))),
  (List.getD y_2.fst (1 : Nat) (Kd.dft (Kd.pair (Kd.int IntKind.i64) (Kd.sl (Kd.int IntKind.u8))))).snd)], z.snd.fst, ()) ∧ μ (IntKind.wrap IntKind.i64 (y_1.fst + (1 : Int)), ()) (z.fst ++
  [(IntKind.wrap IntKind.i64 (List.getD (List.getD y_2.fst (0 : Nat) (Kd.dft (Kd.pair (Kd.int IntKind.i64) (Kd.sl (Kd.int IntKind.u8))))).snd (2 : Nat) (Kd.dft (Kd.int IntKind.u8))),
  (List.getD y_2.fst (1 : Nat) (Kd.dft (Kd.pair (Kd.int IntKind.i64) (Kd.sl (Kd.int IntKind.u8))))).snd)], z.snd.fst, ()) < μ y_1 z) ∧ True) ∧ True) ∧ True) ∧ True) ∧ ((((((0 : Nat) < (2 :
  Nat) ∧ (List.length z.fst + List.length [(IntKind.wrap IntKind.i64 (List.getD (List.getD y_2.fst (0 : Nat) (Kd.dft (Kd.pair (Kd.int IntKind.i64) (Kd.sl (Kd.int IntKind.u8))))).snd (2 : Nat)
  (Kd.dft (Kd.int IntKind.u8))), (List.getD y_2.fst (1 : Nat) (Kd.dft (Kd.pair (Kd.int IntKind.i64) (Kd.sl (Kd.int IntKind.u8))))).snd)]) * (24 : Nat) ≤ (140737488355328 : Nat) ∧ List.length
  z.fst + List.length [(IntKind.wrap IntKind.i64 (List.getD (List.getD y_2.fst (0 : Nat) (Kd.dft (Kd.pair (Kd.int IntKind.i64) (Kd.sl (Kd.int IntKind.u8))))).snd (2 : Nat) (Kd.dft (Kd.int
  IntKind.u8))), (List.getD y_2.fst (1 : Nat) (Kd.dft (Kd.pair (Kd.int IntKind.i64) (Kd.sl (Kd.int IntKind.u8))))).snd)] ≤ (9223372036854775807 : Nat) ∧ x.fst = x.fst ∧ y.fst = y.fst ∧ I
  (IntKind.wrap IntKind.i64 (y_1.fst + (1 : Int)), ()) (z.fst ++ [(IntKind.wrap IntKind.i64 (List.getD (List.getD y_2.fst (0 : Nat) (Kd.dft (Kd.pair (Kd.int IntKind.i64) (Kd.sl (Kd.int
  IntKind.u8))))).snd (2 : Nat) (Kd.dft (Kd.int IntKind.u8))), (List.getD y_2.fst (1 : Nat) (Kd.dft (Kd.pair (Kd.int IntKind.i64) (Kd.sl (Kd.int IntKind.u8))))).snd)], z.snd.fst, ()) ∧ μ
  (IntKind.wrap IntKind.i64 (y_1.fst + (1 : Int)), ()) (z.fst ++ [(IntKind.wrap IntKind.i64 (List.getD (List.getD y_2.fst (0 : Nat) (Kd.dft (Kd.pair (Kd.int IntKind.i64) (Kd.sl (Kd.int
  IntKind.u8))))).snd (2 : Nat) (Kd.dft (Kd.int IntKind.u8))), (List.getD y_2.fst (1 : Nat) (Kd.dft (Kd.pair (Kd.int IntKind.i64) (Kd.sl (Kd.int IntKind.u8))))).snd)], z.snd.fst, ()) < μ y_1
  z) ∧ True) ∧ True) ∧ True) ∧ True) ∧ True) ∧ (((((((0 : Nat) < (2 : Nat) ∧ (List.length z.fst + List.length [(IntKind.wrap IntKind.i64 (List.getD (List.getD y_2.fst (0 : Nat) (Kd.dft
  (Kd.pair (Kd.int IntKind.i64) (Kd.sl (Kd.int IntKind.u8))))).snd (2 : Nat) (Kd.dft (Kd.int IntKind.u8))), (List.getD y_2.fst (1 : Nat) (Kd.dft (Kd.pair (Kd.int IntKind.i64) (Kd.sl (Kd.int
  IntKind.u8))))).snd)]) * (24 : Nat) ≤ (140737488355328 : Nat) ∧ List.length z.fst + List.length [(IntKind.wrap IntKind.i64 (List.getD (List.getD y_2.fst (0 : Nat) (Kd.dft (Kd.pair (Kd.int
  IntKind.i64) (Kd.sl (Kd.int IntKind.u8))))).snd (2 : Nat) (Kd.dft (Kd.int IntKind.u8))), (List.getD y_2.fst (1 : Nat) (Kd.dft (Kd.pair (Kd.int IntKind.i64) (Kd.sl (Kd.int
  IntKind.u8))))).snd)] ≤ (9223372036854775807 : Nat) ∧ x.fst = x.fst ∧ y.fst = y.fst ∧ I (IntKind.wrap IntKind.i64 (y_1.fst + (1 : Int)), ()) (z.fst ++ [(IntKind.wrap IntKind.i64 (List.getD
  (List.getD y_2.fst (0 : Nat) (Kd.dft (Kd.pair (Kd.int IntKind.i64) (Kd.sl (Kd.int IntKind.u8))))).snd (2 : Nat) (Kd.dft (Kd.int IntKind.u8))), (List.getD y_2.fst (1 : Nat) (Kd.dft (Kd.pair
  (Kd.int IntKind.i64) (Kd.sl (Kd.int IntKind.u8))))).snd)], z.snd.fst, ()) ∧ μ (IntKind.wrap IntKind.i64 (y_1.fst + (1 : Int)), ()) (z.fst ++ [(IntKind.wrap IntKind.i64 (List.getD (List.getD
  y_2.fst (0 : Nat) (Kd.dft (Kd.pair (Kd.int IntKind.i64) (Kd.sl (Kd.int IntKind.u8))))).snd (2 : Nat) (Kd.dft (Kd.int IntKind.u8))), (List.getD y_2.fst (1 : Nat) (Kd.dft (Kd.pair (Kd.int
  IntKind.i64) (Kd.sl (Kd.int IntKind.u8))))).snd)], z.snd.fst, ()) < μ y_1 z) ∧ True) ∧ True) ∧ True) ∧ True) ∧ True) ∧ True) ∧ True) ∧ ((((0 : Int) ≤ (2 : Int) ∧ (2 : Int) < (↑(List.length
  (List.getD y_2.fst (0 : Nat) (Kd.dft (Kd.pair (Kd.int IntKind.i64) (Kd.sl (Kd.int IntKind.u8))))).snd) : Int)) ∧ (((((((0 : Nat) < (2 : Nat) ∧ (List.length z.fst + List.length
  [(IntKind.wrap IntKind.i64 (List.getD (List.getD y_2.fst (0 : Nat) (Kd.dft (Kd.pair (Kd.int IntKind.i64) (Kd.sl (Kd.int IntKind.u8))))).snd (2 : Nat) (Kd.dft (Kd.int IntKind.u8))),
  (List.getD y_2.fst (1 : Nat) (Kd.dft (Kd.pair (Kd.int IntKind.i64) (Kd.sl (Kd.int IntKind.u8))))).snd)]) * (24 : Nat) ≤ (140737488355328 : Nat) ∧ List.length z.fst + List.length
  [(IntKind.wrap IntKind.i64 (List.getD (List.getD y_2.fst (0 : Nat) (Kd.dft (Kd.pair (Kd.int IntKind.i64) (Kd.sl (Kd.int IntKind.u8))))).snd (2 : Nat) (Kd.dft (Kd.int IntKind.u8))),
  (List.getD y_2.fst (1 : Nat) (Kd.dft (Kd.pair (Kd.int IntKind.i64) (Kd.sl (Kd.int IntKind.u8))))).snd)] ≤ (9223372036854775807 : Nat) ∧ x.fst = x.fst ∧ y.fst = y.fst ∧ I (IntKind.wrap
  IntKind.i64 (y_1.fst + (1 : Int)), ()) (z.fst ++ [(IntKind.wrap IntKind.i64 (List.getD (List.getD y_2.fst (0 : Nat) (Kd.dft (Kd.pair (Kd.int IntKind.i64) (Kd.sl (Kd.int IntKind.u8))))).snd
  (2 : Nat) (Kd.dft (Kd.int IntKind.u8))), (List.getD y_2.fst (1 : Nat) (Kd.dft (Kd.pair (Kd.int IntKind.i64) (Kd.sl (Kd.int IntKind.u8))))).snd)], z.snd.fst, ()) ∧ μ (IntKind.wrap
  IntKind.i64 (y_1.fst + (1 : Int)), ()) (z.fst ++ [(IntKind.wrap IntKind.i64 (List.getD (List.getD y_2.fst (0 : Nat) (Kd.dft (Kd.pair (Kd.int IntKind.i64) (Kd.sl (Kd.int IntKind.u8))))).snd
  (2 : Nat) (Kd.dft (Kd.int IntKind.u8))), (List.getD y_2.fst (1 : Nat) (Kd.dft (Kd.pair (Kd.int IntKind.i64) (Kd.sl (Kd.int IntKind.u8))))).snd)], z.snd.fst, ()) < μ y_1 z) ∧ True) ∧ True) ∧
  True) ∧ True) ∧ ((((((0 : Nat) < (2 : Nat) ∧ (List.length z.fst + List.length [(IntKind.wrap IntKind.i64 (List.getD (List.getD y_2.fst (0 : Nat) (Kd.dft (Kd.pair (Kd.int IntKind.i64) (Kd.sl
  (Kd.int IntKind.u8))))).snd (2 : Nat) (Kd.dft (Kd.int IntKind.u8))), (List.getD y_2.fst (1 : Nat) (Kd.dft (Kd.pair (Kd.int IntKind.i64) (Kd.sl (Kd.int IntKind.u8))))).snd)]) * (24 : Nat) ≤
  (140737488355328 : Nat) ∧ List.length z.fst + List.length [(IntKind.wrap IntKind.i64 (List.getD (List.getD y_2.fst (0 : Nat) (Kd.dft (Kd.pair (Kd.int IntKind.i64) (Kd.sl (Kd.int
  IntKind.u8))))).snd (2 : Nat) (Kd.dft (Kd.int IntKind.u8))), (List.getD y_2.fst (1 : Nat) (Kd.dft (Kd.pair (Kd.int IntKind.i64) (Kd.sl (Kd.int IntKind.u8))))).snd)] ≤ (9223372036854775807 :
  Nat) ∧ x.fst = x.fst ∧ y.fst = y.fst ∧ I (IntKind.wrap IntKind.i64 (y_1.fst + (1 : Int)), ()) (z.fst ++ [(IntKind.wrap IntKind.i64 (List.getD (List.getD y_2.fst (0 : Nat) (Kd.dft (Kd.pair
  (Kd.int IntKind.i64) (Kd.sl (Kd.int IntKind.u8))))).snd (2 : Nat) (Kd.dft (Kd.int IntKind.u8))), (List.getD y_2.fst (1 : Nat) (Kd.dft (Kd.pair (Kd.int IntKind.i64) (Kd.sl (Kd.int
  IntKind.u8))))).snd)], z.snd.fst, ()) ∧ μ (IntKind.wrap IntKind.i64 (y_1.fst + (1 : Int)), ()) (z.fst ++ [(IntKind.wrap IntKind.i64 (List.getD (List.getD y_2.fst (0 : Nat) (Kd.dft (Kd.pair
  (Kd.int IntKind.i64) (Kd.sl (Kd.int IntKind.u8))))).snd (2 : Nat) (Kd.dft (Kd.int IntKind.u8))), (List.getD y_2.fst (1 : Nat) (Kd.dft (Kd.pair (Kd.int IntKind.i64) (Kd.sl (Kd.int
  IntKind.u8))))).snd)], z.snd.fst, ()) < μ y_1 z) ∧ True) ∧ True) ∧ True) ∧ True) ∧ True) ∧ (((((((0 : Nat) < (2 : Nat) ∧ (List.length z.fst + List.length [(IntKind.wrap IntKind.i64
  (List.getD (List.getD y_2.fst (0 : Nat) (Kd.dft (Kd.pair (Kd.int IntKind.i64) (Kd.sl (Kd.int IntKind.u8))))).snd (2 : Nat) (Kd.dft (Kd.int IntKind.u8))), (List.getD y_2.fst (1 : Nat)
  (Kd.dft (Kd.pair (Kd.int IntKind.i64) (Kd.sl (Kd.int IntKind.u8))))).snd)]) * (24 : Nat) ≤ (140737488355328 : Nat) ∧ List.length z.fst + List.length [(IntKind.wrap IntKind.i64 (List.getD
  (List.getD y_2.fst (0 : Nat) (Kd.dft (Kd.pair (Kd.int IntKind.i64) (Kd.sl (Kd.int IntKind.u8))))).snd (2 : Nat) (Kd.dft (Kd.int IntKind.u8))), (List.getD y_2.fst (1 : Nat) (Kd.dft (Kd.pair
  (Kd.int IntKind.i64) (Kd.sl (Kd.int IntKind.u8))))).snd)] ≤ (9223372036854775807 : Nat) ∧ x.fst = x.fst ∧ y.fst = y.fst ∧ I (IntKind.wrap IntKind.i64 (y_1.fst + (1 : Int)), ()) (z.fst ++
  [(IntKind.wrap IntKind.i64 (List.getD (List.getD y_2.fst (0 : Nat) (Kd.dft (Kd.pair (Kd.int IntKind.i64) (Kd.sl (Kd.int IntKind.u8))))).snd (2 : Nat) (Kd.dft (Kd.int IntKind.u8))),
  (List.getD y_2.fst (1 : Nat) (Kd.dft (Kd.pair (Kd.int IntKind.i64) (Kd.sl (Kd.int IntKind.u8))))).snd)], z.snd.fst, ()) ∧ μ (IntKind.wrap IntKind.i64 (y_1.fst + (1 : Int)), ()) (z.fst ++
  [(IntKind.wrap IntKind.i64 (List.getD (List.getD y_2.fst (0 : Nat) (Kd.dft (Kd.pair (Kd.int IntKind.i64) (Kd.sl (Kd.int IntKind.u8))))).snd (2 : Nat) (Kd.dft (Kd.int IntKind.u8))),
  (List.getD y_2.fst (1 : Nat) (Kd.dft (Kd.pair (Kd.int IntKind.i64) (Kd.sl (Kd.int IntKind.u8))))).snd)], z.snd.fst, ()) < μ y_1 z) ∧ True) ∧ True) ∧ True) ∧ True) ∧ True) ∧ True) ∧ ((((0 :
  Int) ≤ (2 : Int) ∧ (2 : Int) < (↑(List.length (List.getD y_2.fst (0 : Nat) (Kd.dft (Kd.pair (Kd.int IntKind.i64) (Kd.sl (Kd.int IntKind.u8))))).snd) : Int)) ∧ ((((((0 : Nat) < (2 : Nat) ∧
  (List.length z.fst + List.length [(IntKind.wrap IntKind.i64 (List.getD (List.getD y_2.fst (0 : Nat) (Kd.dft (Kd.pair (Kd.int IntKind.i64) (Kd.sl (Kd.int IntKind.u8))))).snd (2 : Nat)
  (Kd.dft (Kd.int IntKind.u8))), (List.getD y_2.fst (1 : Nat) (Kd.dft (Kd.pair (Kd.int IntKind.i64) (Kd.sl (Kd.int IntKind.u8))))).snd)]) * (24 : Nat) ≤ (140737488355328 : Nat) ∧ List.length
  z.fst + List.length [(IntKind.wrap IntKind.i64 (List.getD (List.getD y_2.fst (0 : Nat) (Kd.dft (Kd.pair (Kd.int IntKind.i64) (Kd.sl (Kd.int IntKind.u8))))).snd (2 : Nat) (Kd.dft (Kd.int
  IntKind.u8))), (List.getD y_2.fst (1 : Nat) (Kd.dft (Kd.pair (Kd.int IntKind.i64) (Kd.sl (Kd.int IntKind.u8))))).snd)] ≤ (9223372036854775807 : Nat) ∧ x.fst = x.fst ∧ y.fst = y.fst ∧ I
  (IntKind.wrap IntKind.i64 (y_1.fst + (1 : Int)), ()) (z.fst ++ [(IntKind.wrap IntKind.i64 (List.getD (List.getD y_2.fst (0 : Nat) (Kd.dft (Kd.pair (Kd.int IntKind.i64) (Kd.sl (Kd.int
  IntKind.u8))))).snd (2 : Nat) (Kd.dft (Kd.int IntKind.u8))), (List.getD y_2.fst (1 : Nat) (Kd.dft (Kd.pair (Kd.int IntKind.i64) (Kd.sl (Kd.int IntKind.u8))))).snd)], z.snd.fst, ()) ∧ μ
  (IntKind.wrap IntKind.i64 (y_1.fst + (1 : Int)), ()) (z.fst ++ [(IntKind.wrap IntKind.i64 (List.getD (List.getD y_2.fst (0 : Nat) (Kd.dft (Kd.pair (Kd.int IntKind.i64) (Kd.sl (Kd.int
  IntKind.u8))))).snd (2 : Nat) (Kd.dft (Kd.int IntKind.u8))), (List.getD y_2.fst (1 : Nat) (Kd.dft (Kd.pair (Kd.int IntKind.i64) (Kd.sl (Kd.int IntKind.u8))))).snd)], z.snd.fst, ()) < μ y_1
  z) ∧ True) ∧ True) ∧ True) ∧ True) ∧ True) ∧ True) ∧ True) ∧ True)) ∧ True) ∧ (decide (y_1.fst < (↑(List.length y.fst) : Int)) = false → z.fst = guessD x.fst)) ∧ True
theorem e46 : t46 = Con.vc c_r12_guess GL (mkEnv ty [(69, conSem c_r12_inside)] [] [] [0, 2, 3, 5, 6, 7, 8, 17, 43]) {} Tryd.f46.ntmps Tryd.f46.results.toList (bodyOf Tryd.f46) := by kernel_rfl
theorem k46 : t46 := by
  unfold t46
  rintro ⟨b, _⟩ hx hp
  have hp : b.length ≤ 100000000 := hp
  try dsimp +instances only [dft_int, dft_sl, dft_str]
  simp only [true_and, and_true, eq_self_iff_true, implies_true, reduceCtorEq, false_implies, true_implies, decide_eq_true_eq, decide_eq_false_iff_not, beq_self_eq_true, Bool.not_eq_true', ne_eq, Decidable.not_not, List.nil_append, List.length_singleton, List.length_cons, List.length_nil, Nat.zero_add, Nat.add_zero, Nat.mul_one, and_self, beq_iff_eq, Bool.not_true, Bool.not_false, Bool.not_eq_false', Bool.cond_false_right, Bool.and_eq_true, imp_self, Bool.not_eq_true, Bool.cond_true_left, Bool.or_eq_true]
  simp only [edft_eq]
  obtain ⟨hil, hie⟩ := insD_len b 48
  refine ⟨hp, ?_⟩
  rintro ⟨l, ok, _⟩ hwl h
  simp only at h ⊢
  have hl : (insD b 48).1 = l := by rw [← h]
  rw [hl] at hil hie
  refine ⟨fun y z => 0 ≤ y.1 ∧ y.1 ≤ l.length ∧ (z.1 : List AttrT).length ≤ y.1 ∧ gAll l = (gAll (l.drop y.1.toNat)).map (z.1 ++ ·), fun y _ => ((l.length : Int) - y.1).toNat, ⟨Int.le_refl 0, by simp only; omega, by simp, by simp⟩, ?_⟩
  rintro ⟨i, _⟩ ⟨acc, v, _⟩ _ _ ⟨i0, i1, hal, hg⟩
  simp only at i0 i1 hal hg ⊢
  refine ⟨fun hlt => ?_, fun hge => ?_⟩
  · have hmem := mem_getD edft l i.toNat (by omega)
    rw [drop_consA edft l i.toNat (by omega)] at hg
    generalize l.getD i.toNat edft = x at hg hmem
    have hxl := hie x hmem
    refine ⟨⟨i0, hlt⟩, by rw [lenB]; omega, ?_⟩
    rintro ⟨two, ok2, _⟩ hw2 h2
    simp only at h2 ⊢
    have q1 : (insD x.2 48).1 = two := by rw [← h2]
    have q2 : (insD x.2 48).2 = ok2 := by rw [← h2]
    refine ⟨fun g => ⟨g, by decide, ?_⟩, fun g => ?_, fun g => ?_⟩
    · simp only [Bool.or_eq_false_iff, decide_eq_false_iff_not, Decidable.not_not] at g
      omega
    · have hn : gOne x = none := by
        rw [gOne, q1, q2, if_neg]
        rintro ⟨g1, g2, g3⟩
        rcases g with (g | g) | g
        · rw [g1] at g; cases g
        · omega
        · omega
      rw [gAll_bad hn] at hg
      rw [guessD, hl, hg]
      rfl
    · rw [Bool.or_eq_false_iff, Bool.or_eq_false_iff, Bool.not_eq_false'] at g
      obtain ⟨⟨g1, g2⟩, g3⟩ := g
      have g2 := dec_not g2
      have g3 := dec_not g3
      have hs : gOne x = some ((two.getD 0 edft).2.getD 2 0, (two.getD 1 edft).2) := by
        rw [gOne, q1, q2, if_pos ⟨g1, by omega, by omega⟩]
      rw [gAll_step hs] at hg
      have hw0 : Kd.wf BY (two.getD 0 edft).2 := by
        have := hw2.1.2 _ (mem_getD edft two 0 (by omega))
        exact this.2
      have hb2 := bys_get (sl_bys hw0) 2
      rw [wrapK (i + 1) (by omega) (by omega), wrapK ((two.getD 0 edft).2.getD 2 0) (by omega) (by omega)]
      refine ⟨⟨by decide, by omega⟩, ⟨by decide, by omega⟩, ⟨by decide, by omega⟩, by decide, by omega, by omega, ⟨by omega, by omega, by rw [List.length_append, List.length_singleton]; omega, ?_⟩, by omega⟩
      rw [hg, show i.toNat + 1 = (i + 1).toNat by omega]
      cases gAll (l.drop (i + 1).toNat) <;> simp
  · rw [List.drop_of_length_le (by omega)] at hg
    rw [guessD, hl, hg]
    simp [gAll]
theorem h46 : c_r12_guess.ok Tryd.prog GL 46 := con_ok (H := {}) (mkEnv_ok (gl := GL) (l := [(69, conSem c_r12_inside)]) (q := []) (d := []) _ tyOk (by kernel_rfl) ⟨h69.call, trivial⟩ trivial trivial) (by kernel_rfl) (by kernel_rfl) (Eq.mp e46 k46)

def t24 : Prop :=
  ∀ (x : List Int × Unit), Kd.wf (Kd.sl (Kd.int IntKind.u8)) x.fst ∧ True → lenB x.fst ≤ (100000000 : Nat) → lenB x.fst ≤ (1000000000 : Nat) ∧ (∀ (y : (Int × List Int) × Int × Unit), Kd.wf
  (Kd.pair (Kd.int IntKind.i64) (Kd.sl (Kd.int IntKind.u8))) y.fst ∧ Kd.wf (Kd.int IntKind.i64) y.snd.fst ∧ True → (y.fst, y.snd.fst) = oneD x.fst → (2 : Nat) ≤ (65536 : Nat) ∧ (decide
  (y.snd.fst ≠ (0 : Int)) = true → decQ x.fst [] y.snd.fst = true) ∧ (decide (y.snd.fst ≠ (0 : Int)) = false → lenB x.fst ≤ (100000000 : Nat) ∧ (∀ (y : List (Int × List Int) × Unit), Kd.wf
  (Kd.sl (Kd.pair (Kd.int IntKind.i64) Kd.str)) y.fst ∧ True → y.fst = guessD x.fst → (List.length y.fst ≤ (1000000000 : Nat) ∧ ∀ (a : Int × List Int), a ∈ y.fst → List.length a.snd ≤
  (100000000 : Nat)) ∧ (∀ (y_1 : List Int × Int × Unit), Kd.wf (Kd.sl (Kd.int IntKind.u8)) y_1.fst ∧ Kd.wf (Kd.int IntKind.i64) y_1.snd.fst ∧ True → (y_1.fst, y_1.snd.fst) = EncN y.fst →
  (decide (y_1.snd.fst ≠ (0 : Int)) = false → True) ∧ (decide (y_1.snd.fst ≠ (0 : Int)) = false → (decide (y_1.snd.fst ≠ (0 : Int)) == false) = true ∧ True) ∧ (decide (y_1.snd.fst ≠ (0 :
  Int)) = false → True) ∧ (decide (y_1.snd.fst ≠ (0 : Int)) = false → (decide (y_1.snd.fst ≠ (0 : Int)) == false) = true ∧ True) ∧ (decide (y_1.snd.fst ≠ (0 : Int)) = false → (decide
  (y_1.snd.fst ≠ (0 : Int)) == false) = true ∧ (decide (y_1.snd.fst ≠ (0 : Int)) == false) = true ∧ True) ∧ (decide (y_1.snd.fst ≠ (0 : Int)) = false → (decide (y_1.snd.fst ≠ (0 : Int)) ==
  false) = true) ∧ ((bif decide (y_1.snd.fst ≠ (0 : Int)) then true else decide (y_1.fst ≠ x.fst)) = true → decQ x.fst [] (120 : Int) = true) ∧ ((bif decide (y_1.snd.fst ≠ (0 : Int)) then
  true else decide (y_1.fst ≠ x.fst)) = false → decQ x.fst y.fst (0 : Int) = true)) ∧ True) ∧ True)) ∧ True
theorem e24 : t24 = Con.vc c_r12_Decode GL (mkEnv ty [(45, conSem c_r01_One), (46, conSem c_r12_guess), (26, conSem c_r12_Encode)] [] [] [0, 2, 3, 5, 6, 7, 14, 31]) {} Tryd.f24.ntmps Tryd.f24.results.toList (bodyOf Tryd.f24) := by kernel_rfl
theorem k24 : t24 := by
  unfold t24
  rintro ⟨b, _⟩ hx hp
  have hp : b.length ≤ 100000000 := hp
  try dsimp +instances only [dft_int, dft_sl, dft_str]
  simp only [true_and, and_true, eq_self_iff_true, implies_true, reduceCtorEq, false_implies, true_implies, decide_eq_true_eq, decide_eq_false_iff_not, beq_self_eq_true, Bool.not_eq_true', ne_eq, Decidable.not_not, List.nil_append, List.length_singleton, List.length_cons, List.length_nil, Nat.zero_add, Nat.add_zero, Nat.mul_one, and_self, beq_iff_eq, Bool.not_true, Bool.not_false, Bool.not_eq_false', Bool.cond_false_right, Bool.and_eq_true, imp_self, Bool.not_eq_true, Bool.cond_true_left, Bool.or_eq_true]
  obtain ⟨hgl, hge⟩ := guess_len b
  refine ⟨by rw [lenB]; omega, ?_⟩
  rintro ⟨x, e, _⟩ _ h
  simp only at h ⊢
  have o3 : (oneD b).2 = e := by rw [← h]
  refine ⟨by decide, fun h2 => decQ_iff.2 (.inl ⟨by rw [o3]; exact h2, o3.symm, rfl⟩), fun h2 => ⟨hp, ?_⟩⟩
  subst h2
  rintro ⟨n, _⟩ _ en
  simp only at en ⊢
  subst en
  refine ⟨⟨by omega, fun a ha => by have := hge a ha; omega⟩, ?_⟩
  rintro ⟨c, e2, _⟩ _ ec
  simp only at ec ⊢
  have hg := guess_dec o3
  rw [← ec] at hg
  refine ⟨fun h => ?_, fun h => ?_⟩
  · rwa [if_neg (fun h2 => by obtain ⟨rfl, rfl⟩ := Prod.mk.inj h2; exact h.elim (fun h => h rfl) (fun h => h rfl)), if_neg (fun h2 => by obtain ⟨rfl, rfl⟩ := Prod.mk.inj h2; exact h.elim (fun h => h rfl) (fun h => h rfl))] at hg
  · simp only [Bool.or_eq_false_iff, decide_eq_false_iff_not, Decidable.not_not] at h
    obtain ⟨rfl, rfl⟩ := h
    rwa [if_pos rfl, if_pos rfl] at hg
theorem h24 : c_r12_Decode.ok Tryd.prog GL 24 := con_ok (H := {}) (mkEnv_ok (gl := GL) (l := [(45, conSem c_r01_One), (46, conSem c_r12_guess), (26, conSem c_r12_Encode)]) (q := []) (d := []) _ tyOk (by kernel_rfl) ⟨h45.call, h46.call, h26.call, trivial⟩ trivial trivial) (by kernel_rfl) (by kernel_rfl) (Eq.mp e24 k24)

end Go.Proofs.YtcaekpbmmbfeiaaDoor
end
