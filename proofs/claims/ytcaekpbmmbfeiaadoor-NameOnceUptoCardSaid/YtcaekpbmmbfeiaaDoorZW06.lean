/- Texts of a verified walk, led together: Name3A, Name3W, Name4A, Name4W, Namp2A, Namp2W. -/
import Derived.Test.YtcaekpbmmbfeiaaDoorZW05
import Derived.Test.YtcaekpbmmbfeiaaDoorZV11
import Derived.Test.YtcaekpbmmbfeiaaDoorZV08
set_option linter.unusedVariables false
set_option linter.unusedSimpArgs false
section
/- Contracts. -/
namespace Go.Proofs.YtcaekpbmmbfeiaaDoor
open Go Go.Vc Go.Pl Go.Proofs
def c_slices_Equal_int_int : Con := { args := [.dat (.sl I64), .dat (.sl I64)], res := [.dat .bool], pre := fun _ => True, post := fun x y => y.1 = decide (x.1 = x.2.1) }
def c_oid_Begins : Con := { args := [.dat (.sl I64), .dat (.sl I64)], res := [.dat .bool], pre := fun _ => True, post := fun x y => y.1 = decide (x.1.take x.2.1.length = x.2.1) }
def c_name_wrap : Con := { args := [.dat I64, .dat (.sl BY)], res := [.own 5 U8], pre := fun x => isTagD x.1 = true ∧ lenF x.2.1 ≤ 16777215, post := fun x y => y.1 = putB (x.1, x.2.1.flatten) }
def c_name_Encode : Con := { args := [.dat (.sl AT)], res := [.own 5 U8, .dat I64], pre := fun x => x.1.length ≤ 1000000000, post := fun x y => (y.1, y.2.1) = EncN x.1 }
def c_name_only : Con := { args := [.dat BY, .dat I64], res := [.dat BY, .dat .bool], pre := fun x => lenB x.1 ≤ 100000000, post := fun x y => y.1 = (oneD x.1).1.2 ∧ y.2.1 = (decide ((oneD x.1).2 = 0) && decide ((oneD x.1).1.1 = x.2.1)) }
def c_r12_put : Con := { args := [.dat I64, .dat BY], res := [.own 5 U8], pre := fun x => 0 ≤ x.1 ∧ x.1 ≤ 255 ∧ lenB x.2.1 ≤ 16777215, post := fun x y => y.1 = putB (x.1, x.2.1) }
def c_r12_Encode : Con := { args := [.dat (.sl AT)], res := [.own 5 U8, .dat I64], pre := fun x => x.1.length ≤ 1000000000 ∧ ∀ a ∈ x.1, a.2.length ≤ 100000000, post := fun x y => (y.1, y.2.1) = EncN x.1 }
def c_r12_inside : Con := { args := [.dat BY, .dat I64], res := [.own 76 ET, .dat .bool], pre := fun x => lenB x.1 ≤ 100000000, post := fun x y => (y.1, y.2.1) = insD x.1 x.2.1 }
def c_r12_guess : Con := { args := [.dat BY], res := [.own 56 AT], pre := fun x => lenB x.1 ≤ 100000000, post := fun x y => y.1 = guessD x.1 }
def c_r12_Decode : Con := { args := [.dat BY], res := [.own 56 AT, .dat I64], pre := fun x => lenB x.1 ≤ 100000000, post := fun x y => decQ x.1 y.1 y.2.1 = true }

end Go.Proofs.YtcaekpbmmbfeiaaDoor
end
section
/- Walks. -/
namespace Go.Proofs.YtcaekpbmmbfeiaaDoor
open Go Go.Vc Go.Pl Go.Proofs
set_option linter.unusedVariables false
set_option linter.unusedSimpArgs false
set_option maxRecDepth 20000
theorem adft_eq4 : Kd.dft (Kd.pair (Kd.int IntKind.i64) Kd.str) = adft := rfl
theorem edft_eq : Kd.dft (Kd.pair (Kd.int IntKind.i64) (Kd.sl (Kd.int IntKind.u8))) = edft := rfl
def t93 : Prop :=
  ∀ (x : List Int × List Int × Unit), Kd.wf (Kd.sl (Kd.int IntKind.i64)) x.fst ∧ Kd.wf (Kd.sl (Kd.int IntKind.i64)) x.snd.fst ∧ True → True → (decide ((↑(List.length x.fst) : Int) ≠
  (↑(List.length x.snd.fst) : Int)) = true → false = decide (x.fst = x.snd.fst)) ∧ (decide ((↑(List.length x.fst) : Int) ≠ (↑(List.length x.snd.fst) : Int)) = false → ∃ (I : Int × Bool × Unit
  → Unit → Prop), ∃ (μ : Int × Bool × Unit → Unit → Nat), ((↑(List.length x.fst) : Int) = (↑(List.length x.fst) : Int) ∧ Value.bool false = Value.bool false ∧ x.fst = x.fst ∧ x.snd.fst =
  x.snd.fst ∧ I ((0 : Int), false, ()) ()) ∧ ∀ (y : Int × Bool × Unit) (z : Unit), Kd.wf (Kd.int IntKind.i64) y.fst ∧ Kd.wf Kd.bool y.snd.fst ∧ True → True → I y z → (decide (y.fst <
  (↑(List.length x.fst) : Int)) = true → ((0 : Int) ≤ y.fst ∧ y.fst < (↑(List.length x.fst) : Int)) ∧ ((0 : Int) ≤ y.fst ∧ y.fst < (↑(List.length x.snd.fst) : Int)) ∧ (decide (List.getD x.fst
  (Int.toNat y.fst) (Kd.dft (Kd.int IntKind.i64)) ≠ List.getD x.snd.fst (Int.toNat y.fst) (Kd.dft (Kd.int IntKind.i64))) = true → false = decide (x.fst = x.snd.fst)) ∧ (decide (List.getD
  x.fst (Int.toNat y.fst) (Kd.dft (Kd.int IntKind.i64)) ≠ List.getD x.snd.fst (Int.toNat y.fst) (Kd.dft (Kd.int IntKind.i64))) = false → (↑(List.length x.fst) : Int) = (↑(List.length x.fst) :
  Int) ∧ Value.bool false = Value.bool false ∧ x.fst = x.fst ∧ x.snd.fst = x.snd.fst ∧ I (IntKind.wrap IntKind.i64 (y.fst + (1 : Int)), y.snd.fst, ()) () ∧ μ (IntKind.wrap IntKind.i64 (y.fst
  + (1 : Int)), y.snd.fst, ()) () < μ y z)) ∧ (decide (y.fst < (↑(List.length x.fst) : Int)) = false → true = decide (x.fst = x.snd.fst)))
theorem e93 : t93 = Con.vc c_slices_Equal_int_int GL (mkEnv ty [] [] [] [0, 1, 4, 5, 10, 12, 13, 14, 24]) {} Tryd.f93.ntmps Tryd.f93.results.toList (bodyOf Tryd.f93) := by kernel_rfl
theorem k93 : t93 := by
  unfold t93
  rintro ⟨a, b, _⟩ hx hp
  have hl : a.length ≤ 9223372036854775807 := hx.1.1
  try dsimp +instances only [dft_int, dft_sl, dft_str]
  simp only [true_and, and_true, eq_self_iff_true, implies_true, reduceCtorEq, false_implies, true_implies, decide_eq_true_eq, decide_eq_false_iff_not, beq_self_eq_true, Bool.not_eq_true', ne_eq, Decidable.not_not, List.nil_append, List.length_singleton, List.length_cons, List.length_nil, Nat.zero_add, Nat.add_zero, Nat.mul_one, and_self, beq_iff_eq, Bool.not_true, Bool.not_false, Bool.not_eq_false', Bool.cond_false_right, Bool.and_eq_true, imp_self, Bool.not_eq_true, Bool.cond_true_left, Bool.or_eq_true]
  refine ⟨fun h => (decide_eq_false (fun e => h (by rw [e]))).symm, fun h => ?_⟩
  refine ⟨fun y _ => 0 ≤ y.1 ∧ y.1 ≤ a.length ∧ a.take y.1.toNat = b.take y.1.toNat, fun y _ => ((a.length : Int) - y.1).toNat, ⟨Int.le_refl 0, by simp only; omega, rfl⟩, ?_⟩
  rintro ⟨i, q, _⟩ _ _ ⟨i0, i1, e⟩
  simp only at i0 i1 e ⊢
  refine ⟨fun hlt => ⟨⟨i0, hlt⟩, ⟨i0, by omega⟩, fun hne => ?_, fun he => ?_⟩, fun hge => ?_⟩
  · refine (decide_eq_false fun e2 => hne ?_).symm
    rw [e2]
  · rw [wrapM (i + 1) (by omega) (by omega)]
    refine ⟨⟨by omega, by omega, ?_⟩, by omega⟩
    rw [show (i + 1).toNat = i.toNat + 1 by omega, take_snoc a _ (by omega), take_snoc b _ (by omega), e, he]
  · rw [List.take_of_length_le (by omega), List.take_of_length_le (by omega)] at e
    exact (decide_eq_true e).symm
theorem h93 : c_slices_Equal_int_int.ok Tryd.prog GL 93 := con_ok (H := {}) (mkEnv_ok (gl := GL) (l := []) (q := []) (d := []) _ tyOk (by kernel_rfl) trivial trivial trivial) (by kernel_rfl) (by kernel_rfl) (Eq.mp e93 k93)

def t67 : Prop :=
  ∀ (x : List Int × List Int × Unit), Kd.wf (Kd.sl (Kd.int IntKind.i64)) x.fst ∧ Kd.wf (Kd.sl (Kd.int IntKind.i64)) x.snd.fst ∧ True → True → (decide ((↑(List.length x.snd.fst) : Int) ≤
  (↑(List.length x.fst) : Int)) = true → True) ∧ (decide ((↑(List.length x.snd.fst) : Int) ≤ (↑(List.length x.fst) : Int)) = true → True) ∧ (decide ((↑(List.length x.snd.fst) : Int) ≤
  (↑(List.length x.fst) : Int)) = true → (decide ((↑(List.length x.snd.fst) : Int) ≤ (↑(List.length x.fst) : Int)) == true) = true ∧ True) ∧ (decide ((↑(List.length x.snd.fst) : Int) ≤
  (↑(List.length x.fst) : Int)) = true → (decide ((↑(List.length x.snd.fst) : Int) ≤ (↑(List.length x.fst) : Int)) == true) = true ∧ (decide ((↑(List.length x.snd.fst) : Int) ≤ (↑(List.length
  x.fst) : Int)) == true) = true ∧ ((0 : Int) ≤ (↑(List.length x.snd.fst) : Int) ∧ (↑(List.length x.snd.fst) : Int) ≤ (↑(List.length x.fst) : Int)) ∧ True) ∧ (decide ((↑(List.length
  x.snd.fst) : Int) ≤ (↑(List.length x.fst) : Int)) = true → True) ∧ (decide ((↑(List.length x.snd.fst) : Int) ≤ (↑(List.length x.fst) : Int)) = true → (decide ((↑(List.length x.snd.fst) :
  Int) ≤ (↑(List.length x.fst) : Int)) == true) = true ∧ (decide ((↑(List.length x.snd.fst) : Int) ≤ (↑(List.length x.fst) : Int)) == true) = true ∧ True ∧ (∀ (y : Bool × Unit), Kd.wf Kd.bool
  y.fst ∧ True → y.fst = decide (List.take (Int.toNat (↑(List.length x.snd.fst) : Int)) x.fst = x.snd.fst) → y.fst = decide (List.take (List.length x.snd.fst) x.fst = x.snd.fst)) ∧ True) ∧
  (decide ((↑(List.length x.snd.fst) : Int) ≤ (↑(List.length x.fst) : Int)) = !true → false = decide (List.take (List.length x.snd.fst) x.fst = x.snd.fst))
theorem e67 : t67 = Con.vc c_oid_Begins GL (mkEnv ty [(93, conSem c_slices_Equal_int_int)] [] [] [0, 1, 4]) {} Tryd.f67.ntmps Tryd.f67.results.toList (bodyOf Tryd.f67) := by kernel_rfl
theorem k67 : t67 := by
  unfold t67
  rintro ⟨a, b, _⟩ hx hp
  try dsimp +instances only [dft_int, dft_sl, dft_str]
  simp only [true_and, and_true, eq_self_iff_true, implies_true, reduceCtorEq, false_implies, true_implies, decide_eq_true_eq, decide_eq_false_iff_not, beq_self_eq_true, Bool.not_eq_true', ne_eq, Decidable.not_not, List.nil_append, List.length_singleton, List.length_cons, List.length_nil, Nat.zero_add, Nat.add_zero, Nat.mul_one, and_self, beq_iff_eq, Bool.not_true, Bool.not_false, Bool.not_eq_false', Bool.cond_false_right, Bool.and_eq_true, imp_self, Bool.not_eq_true, Bool.cond_true_left, Bool.or_eq_true]
  refine ⟨fun h => ⟨h, h, by omega, h⟩, fun h => ⟨h, h, fun y _ e => ?_⟩, fun h => ?_⟩
  · rw [e, Int.toNat_natCast]
  · refine (decide_eq_false fun e => h ?_).symm
    have := congrArg List.length e
    rw [List.length_take] at this
    omega
theorem h67 : c_oid_Begins.ok Tryd.prog GL 67 := con_ok (H := {}) (mkEnv_ok (gl := GL) (l := [(93, conSem c_slices_Equal_int_int)]) (q := []) (d := []) _ tyOk (by kernel_rfl) ⟨h93.call, trivial⟩ trivial trivial) (by kernel_rfl) (by kernel_rfl) (Eq.mp e67 k67)

def t49 : Prop :=
  ∀ (x : Int × List (List Int) × Unit), Kd.wf (Kd.int IntKind.i64) x.fst ∧ Kd.wf (Kd.sl (Kd.sl (Kd.int IntKind.u8))) x.snd.fst ∧ True → isTagD x.fst = true ∧ lenF x.snd.fst ≤ (16777215 : Nat)
  → lenB [] ≤ (900000000 : Nat) ∧ (∀ (y : List Int × Int × Unit), Kd.wf (Kd.sl (Kd.int IntKind.u8)) y.fst ∧ Kd.wf (Kd.int IntKind.i64) y.snd.fst ∧ True → (y.fst, y.snd.fst) = PutD [] x.fst
  (List.flatten x.snd.fst) → y.fst = putB (x.fst, List.flatten x.snd.fst)) ∧ True
theorem e49 : t49 = Con.vc c_name_wrap GL (mkEnv ty [(72, conSem c_der_Put)] [] [] [0, 1, 4, 5]) {} Tryd.f49.ntmps Tryd.f49.results.toList (bodyOf Tryd.f49) := by kernel_rfl
theorem k49 : t49 := by
  unfold t49
  rintro ⟨t, cs, _⟩ hx hp
  obtain ⟨h1, h2⟩ := hp
  simp only [lenF] at h1 h2
  try dsimp +instances only [dft_int, dft_sl, dft_str]
  simp only [true_and, and_true, eq_self_iff_true, implies_true, reduceCtorEq, false_implies, true_implies, decide_eq_true_eq, decide_eq_false_iff_not, beq_self_eq_true, Bool.not_eq_true', ne_eq, Decidable.not_not, List.nil_append, List.length_singleton, List.length_cons, List.length_nil, Nat.zero_add, Nat.add_zero, Nat.mul_one, and_self, beq_iff_eq, Bool.not_true, Bool.not_false, Bool.not_eq_false', Bool.cond_false_right, Bool.and_eq_true, imp_self, Bool.not_eq_true, Bool.cond_true_left, Bool.or_eq_true]
  refine ⟨by simp [lenB], ?_⟩
  rintro ⟨y, e, _⟩ _ h
  simp only at h ⊢
  rw [put_nil t _ h1 h2] at h
  exact (Prod.mk.inj h).1
theorem h49 : c_name_wrap.ok Tryd.prog GL 49 := con_ok (H := {}) (mkEnv_ok (gl := GL) (l := [(72, conSem c_der_Put)]) (q := []) (d := []) _ tyOk (by kernel_rfl) ⟨h72.call, trivial⟩ trivial trivial) (by kernel_rfl) (by kernel_rfl) (Eq.mp e49 k49)

def t25 : Prop :=
  ∀ (x : List (Int × List Int) × Unit), Kd.wf (Kd.sl (Kd.pair (Kd.int IntKind.i64) Kd.str)) x.fst ∧ True → List.length x.fst ≤ (1000000000 : Nat) → True ∧ (∀ (y : Bool × Unit), Kd.wf Kd.bool
  y.fst ∧ True → y.fst = mayN x.fst → ((!y.fst) = true → ([], (120 : Int)) = EncN x.fst) ∧ ((!y.fst) = false → ∃ (I : Int × Unit → List (List Int) × Unit → Prop), ∃ (μ : Int × Unit → List
  (List Int) × Unit → Nat), ((↑(List.length x.fst) : Int) = (↑(List.length x.fst) : Int) ∧ x.fst = x.fst ∧ Value.bool false = Value.bool false ∧ (0 : Int) = (0 : Int) ∧ Value.slice none (0 :
  Nat) (0 : Nat) = Value.slice none (0 : Nat) (0 : Nat) ∧ x.fst = x.fst ∧ I ((0 : Int), ()) ([], ())) ∧ ∀ (y : Int × Unit) (z : List (List Int) × Unit), Kd.wf (Kd.int IntKind.i64) y.fst ∧
  True → Kd.wf (Kd.sl (Kd.sl (Kd.int IntKind.u8))) z.fst ∧ True → I y z → (decide (y.fst < (↑(List.length x.fst) : Int)) = true → ((0 : Int) ≤ y.fst ∧ y.fst < (↑(List.length x.fst) : Int)) ∧
  (2 : Nat) ≤ (65536 : Nat) ∧ True ∧ (∀ (y_1 : Int × Int × Unit), Kd.wf (Kd.int IntKind.i64) y_1.fst ∧ Kd.wf (Kd.int IntKind.i64) y_1.snd.fst ∧ True → y_1.fst = (kindD (List.getD x.fst
  (Int.toNat y.fst) (Kd.dft (Kd.pair (Kd.int IntKind.i64) Kd.str))).snd).fst ∧ y_1.snd.fst = (kindD (List.getD x.fst (Int.toNat y.fst) (Kd.dft (Kd.pair (Kd.int IntKind.i64) Kd.str))).snd).snd
  → True ∧ (∀ (y_2 : List Int × Int × Unit), Kd.wf (Kd.sl (Kd.int IntKind.u8)) y_2.fst ∧ Kd.wf (Kd.int IntKind.i64) y_2.snd.fst ∧ True → (y_2.fst, y_2.snd.fst) = EncO [(2 : Int), (5 : Int),
  (4 : Int), (List.getD x.fst (Int.toNat y.fst) (Kd.dft (Kd.pair (Kd.int IntKind.i64) Kd.str))).fst] → (((isTagD (6 : Int) = true ∧ lenF [y_2.fst] ≤ (16777215 : Nat)) ∧ (∀ (y_3 : List Int ×
  Unit), Kd.wf (Kd.sl (Kd.int IntKind.u8)) y_3.fst ∧ True → y_3.fst = putB ((6 : Int), List.flatten [y_2.fst]) → (((((isTagD y_1.fst = true ∧ lenF [(List.getD x.fst (Int.toNat y.fst) (Kd.dft
  (Kd.pair (Kd.int IntKind.i64) Kd.str))).snd] ≤ (16777215 : Nat)) ∧ (∀ (y_4 : List Int × Unit), Kd.wf (Kd.sl (Kd.int IntKind.u8)) y_4.fst ∧ True → y_4.fst = putB (y_1.fst, List.flatten
  [(List.getD x.fst (Int.toNat y.fst) (Kd.dft (Kd.pair (Kd.int IntKind.i64) Kd.str))).snd]) → (((isTagD (48 : Int) = true ∧ lenF [y_3.fst, y_4.fst] ≤ (16777215 : Nat)) ∧ (∀ (y_5 : List Int ×
  Unit), Kd.wf (Kd.sl (Kd.int IntKind.u8)) y_5.fst ∧ True → y_5.fst = putB ((48 : Int), List.flatten [y_3.fst, y_4.fst]) → (((isTagD (49 : Int) = true ∧ lenF [y_5.fst] ≤ (16777215 : Nat)) ∧
  (∀ (y_6 : List Int × Unit), Kd.wf (Kd.sl (Kd.int IntKind.u8)) y_6.fst ∧ True → y_6.fst = putB ((49 : Int), List.flatten [y_5.fst]) → (((0 : Nat) < (1 : Nat) ∧ (List.length z.fst +
  List.length [y_6.fst]) * (24 : Nat) ≤ (140737488355328 : Nat) ∧ List.length z.fst + List.length [y_6.fst] ≤ (9223372036854775807 : Nat) ∧ (↑(List.length x.fst) : Int) = (↑(List.length
  x.fst) : Int) ∧ x.fst = x.fst ∧ Value.bool false = Value.bool false ∧ (0 : Int) = (0 : Int) ∧ Value.slice none (0 : Nat) (0 : Nat) = Value.slice none (0 : Nat) (0 : Nat) ∧ x.fst = x.fst ∧ I
  (IntKind.wrap IntKind.i64 (y.fst + (1 : Int)), ()) (z.fst ++ [y_6.fst], ()) ∧ μ (IntKind.wrap IntKind.i64 (y.fst + (1 : Int)), ()) (z.fst ++ [y_6.fst], ()) < μ y z) ∧ True) ∧ True) ∧ True)
  ∧ True) ∧ True) ∧ True) ∧ True) ∧ True) ∧ True) ∧ True) ∧ True) ∧ True) ∧ True) ∧ True) ∧ (((isTagD (6 : Int) = true ∧ lenF [y_2.fst] ≤ (16777215 : Nat)) ∧ (∀ (y_3 : List Int × Unit), Kd.wf
  (Kd.sl (Kd.int IntKind.u8)) y_3.fst ∧ True → y_3.fst = putB ((6 : Int), List.flatten [y_2.fst]) → ((((isTagD y_1.fst = true ∧ lenF [(List.getD x.fst (Int.toNat y.fst) (Kd.dft (Kd.pair
  (Kd.int IntKind.i64) Kd.str))).snd] ≤ (16777215 : Nat)) ∧ (∀ (y_4 : List Int × Unit), Kd.wf (Kd.sl (Kd.int IntKind.u8)) y_4.fst ∧ True → y_4.fst = putB (y_1.fst, List.flatten [(List.getD
  x.fst (Int.toNat y.fst) (Kd.dft (Kd.pair (Kd.int IntKind.i64) Kd.str))).snd]) → (((isTagD (48 : Int) = true ∧ lenF [y_3.fst, y_4.fst] ≤ (16777215 : Nat)) ∧ (∀ (y_5 : List Int × Unit), Kd.wf
  (Kd.sl (Kd.int IntKind.u8)) y_5.fst ∧ True → y_5.fst = putB ((48 : Int), List.flatten [y_3.fst, y_4.fst]) → (((isTagD (49 : Int) = true ∧ lenF [y_5.fst] ≤ (16777215 : Nat)) ∧ (∀ (y_6 : List
  Int × Unit), Kd.wf (Kd.sl (Kd.int IntKind.u8)) y_6.fst ∧ True → y_6.fst = putB ((49 : Int), List.flatten [y_5.fst]) → (((0 : Nat) < (1 : Nat) ∧ (List.length z.fst + List.length [y_6.fst]) *
  (24 : Nat) ≤ (140737488355328 : Nat) ∧ List.length z.fst + List.length [y_6.fst] ≤ (9223372036854775807 : Nat) ∧ (↑(List.length x.fst) : Int) = (↑(List.length x.fst) : Int) ∧ x.fst = x.fst
  ∧ Value.bool false = Value.bool false ∧ (0 : Int) = (0 : Int) ∧ Value.slice none (0 : Nat) (0 : Nat) = Value.slice none (0 : Nat) (0 : Nat) ∧ x.fst = x.fst ∧ I (IntKind.wrap IntKind.i64
  (y.fst + (1 : Int)), ()) (z.fst ++ [y_6.fst], ()) ∧ μ (IntKind.wrap IntKind.i64 (y.fst + (1 : Int)), ()) (z.fst ++ [y_6.fst], ()) < μ y z) ∧ True) ∧ True) ∧ True) ∧ True) ∧ True) ∧ True) ∧
  True) ∧ True) ∧ True) ∧ True) ∧ True) ∧ True) ∧ True) ∧ (((isTagD (6 : Int) = true ∧ lenF [y_2.fst] ≤ (16777215 : Nat)) ∧ (∀ (y_3 : List Int × Unit), Kd.wf (Kd.sl (Kd.int IntKind.u8))
  y_3.fst ∧ True → y_3.fst = putB ((6 : Int), List.flatten [y_2.fst]) → (((isTagD y_1.fst = true ∧ lenF [(List.getD x.fst (Int.toNat y.fst) (Kd.dft (Kd.pair (Kd.int IntKind.i64)
  Kd.str))).snd] ≤ (16777215 : Nat)) ∧ (∀ (y_4 : List Int × Unit), Kd.wf (Kd.sl (Kd.int IntKind.u8)) y_4.fst ∧ True → y_4.fst = putB (y_1.fst, List.flatten [(List.getD x.fst (Int.toNat y.fst)
  (Kd.dft (Kd.pair (Kd.int IntKind.i64) Kd.str))).snd]) → (((isTagD (48 : Int) = true ∧ lenF [y_3.fst, y_4.fst] ≤ (16777215 : Nat)) ∧ (∀ (y_5 : List Int × Unit), Kd.wf (Kd.sl (Kd.int
  IntKind.u8)) y_5.fst ∧ True → y_5.fst = putB ((48 : Int), List.flatten [y_3.fst, y_4.fst]) → (((isTagD (49 : Int) = true ∧ lenF [y_5.fst] ≤ (16777215 : Nat)) ∧ (∀ (y_6 : List Int × Unit),
  Kd.wf (Kd.sl (Kd.int IntKind.u8)) y_6.fst ∧ True → y_6.fst = putB ((49 : Int), List.flatten [y_5.fst]) → (((0 : Nat) < (1 : Nat) ∧ (List.length z.fst + List.length [y_6.fst]) * (24 : Nat) ≤
  (140737488355328 : Nat) ∧ List.length z.fst + List.length [y_6.fst] ≤ (9223372036854775807 : Nat) ∧ (↑(List.length x.fst) : Int) = (↑(List.length x.fst) : Int) ∧ x.fst = x.fst ∧ Value.bool
  false = Value.bool false ∧ (0 : Int) = (0 : Int) ∧ Value.slice none (0 : Nat) (0 : Nat) = Value.slice none (0 : Nat) (0 : Nat) ∧ x.fst = x.fst ∧ I (IntKind.wrap IntKind.i64 (y.fst + (1 :
  Int)), ()) (z.fst ++ [y_6.fst], ()) ∧ μ (IntKind.wrap IntKind.i64 (y.fst + (1 : Int)), ()) (z.fst ++ [y_6.fst], ()) < μ y z) ∧ True) ∧ True) ∧ True) ∧ True) ∧ True) ∧ True) ∧ True) ∧ True)
  ∧ True) ∧ True) ∧ True) ∧ True) ∧ (((isTagD (6 : Int) = true ∧ lenF [y_2.fst] ≤ (16777215 : Nat)) ∧ (∀ (y_3 : List Int × Unit), Kd.wf (Kd.sl (Kd.int IntKind.u8)) y_3.fst ∧ True → y_3.fst =
  putB ((6 : Int), List.flatten [y_2.fst]) → ((isTagD y_1.fst = true ∧ lenF [(List.getD x.fst (Int.toNat y.fst) (Kd.dft (Kd.pair (Kd.int IntKind.i64) Kd.str))).snd] ≤ (16777215 : Nat)) ∧ (∀
  (y_4 : List Int × Unit), Kd.wf (Kd.sl (Kd.int IntKind.u8)) y_4.fst ∧ True → y_4.fst = putB (y_1.fst, List.flatten [(List.getD x.fst (Int.toNat y.fst) (Kd.dft (Kd.pair (Kd.int IntKind.i64)
  Kd.str))).snd]) → (((isTagD (48 : Int) = true ∧ lenF [y_3.fst, y_4.fst] ≤ (16777215 : Nat)) ∧ (∀ (y_5 : List Int × Unit), Kd.wf (Kd.sl (Kd.int IntKind.u8)) y_5.fst ∧ True → y_5.fst = putB
  ((48 : Int), List.flatten [y_3.fst, y_4.fst]) → (((isTagD (49 : Int) = true ∧ lenF [y_5.fst] ≤ (16777215 : Nat)) ∧ (∀ (y_6 : List Int × Unit), Kd.wf (Kd.sl (Kd.int IntKind.u8)) y_6.fst ∧
  True → y_6.fst = putB ((49 : Int), List.flatten [y_5.fst]) → (((0 : Nat) < (1 : Nat) ∧ (List.length z.fst + List.length [y_6.fst]) * (24 : Nat) ≤ (140737488355328 : Nat) ∧ List.length z.fst
  + List.length [y_6.fst] ≤ (9223372036854775807 : Nat) ∧ (↑(List.length x.fst) : Int) = (↑(List.length x.fst) : Int) ∧ x.fst = x.fst ∧ Value.bool false = Value.bool false ∧ (0 : Int) = (0 :
  Int) ∧ Value.slice none (0 : Nat) (0 : Nat) = Value.slice none (0 : Nat) (0 : Nat) ∧ x.fst = x.fst ∧ I (IntKind.wrap IntKind.i64 (y.fst + (1 : Int)), ()) (z.fst ++ [y_6.fst], ()) ∧ μ
  (IntKind.wrap IntKind.i64 (y.fst + (1 : Int)), ()) (z.fst ++ [y_6.fst], ()) < μ y z) ∧ True) ∧ True) ∧ True) ∧ True) ∧ True) ∧ True) ∧ True) ∧ True) ∧ True) ∧ True) ∧ True) ∧ True) ∧ True)
  ∧ True) ∧ True) ∧ ((((isTagD (6 : Int) = true ∧ lenF [y_2.fst] ≤ (16777215 : Nat)) ∧ (∀ (y_3 : List Int × Unit), Kd.wf (Kd.sl (Kd.int IntKind.u8)) y_3.fst ∧ True → y_3.fst = putB ((6 :
  Int), List.flatten [y_2.fst]) → ((((isTagD y_1.fst = true ∧ lenF [(List.getD x.fst (Int.toNat y.fst) (Kd.dft (Kd.pair (Kd.int IntKind.i64) Kd.str))).snd] ≤ (16777215 : Nat)) ∧ (∀ (y_4 :
  List Int × Unit), Kd.wf (Kd.sl (Kd.int IntKind.u8)) y_4.fst ∧ True → y_4.fst = putB (y_1.fst, List.flatten [(List.getD x.fst (Int.toNat y.fst) (Kd.dft (Kd.pair (Kd.int IntKind.i64)
  Kd.str))).snd]) → (((isTagD (48 : Int) = true ∧ lenF [y_3.fst, y_4.fst] ≤ (16777215 : Nat)) ∧ (∀ (y_5 : List Int × Unit), Kd.wf (Kd.sl (Kd.int IntKind.u8)) y_5.fst ∧ True → y_5.fst = putB
  ((48 : Int), List.flatten [y_3.fst, y_4.fst]) → (((isTagD (49 : Int) = true ∧ lenF [y_5.fst] ≤ (16777215 : Nat)) ∧ (∀ (y_6 : List Int × Unit), Kd.wf (Kd.sl (Kd.int IntKind.u8)) y_6.fst ∧
  True → y_6.fst = putB ((49 : Int), List.flatten [y_5.fst]) → (((0 : Nat) < (1 : Nat) ∧ (List.length z.fst + List.length [y_6.fst]) * (24 : Nat) ≤ (140737488355328 : Nat) ∧ List.length z.fst
  + List.length [y_6.fst] ≤ (9223372036854775807 : Nat) ∧ (↑(List.length x.fst) : Int) = (↑(List.length x.fst) : Int) ∧ x.fst = x.fst ∧ Value.bool false = Value.bool false ∧ (0 : Int) = (0 :
  Int) ∧ Value.slice none (0 : Nat) (0 : Nat) = Value.slice none (0 : Nat) (0 : Nat) ∧ x.fst = x.fst ∧ I (IntKind.wrap IntKind.i64 (y.fst + (1 : Int)), ()) (z.fst ++ [y_6.fst], ()) ∧ μ
  (IntKind.wrap IntKind.i64 (y.fst + (1 : Int)), ()) (z.fst ++ [y_6.fst], ()) < μ y z) ∧ True) ∧ True) ∧ True) ∧ True) ∧ True) ∧ True) ∧ True) ∧ True) ∧ True) ∧ True) ∧ True) ∧ True) ∧ True)
  ∧ (((isTagD (6 : Int) = true ∧ lenF [y_2.fst] ≤ (16777215 : Nat)) ∧ (∀ (y_3 : List Int × Unit), Kd.wf (Kd.sl (Kd.int IntKind.u8)) y_3.fst ∧ True → y_3.fst = putB ((6 : Int), List.flatten
  [y_2.fst]) → (((isTagD y_1.fst = true ∧ lenF [(List.getD x.fst (Int.toNat y.fst) (Kd.dft (Kd.pair (Kd.int IntKind.i64) Kd.str))).snd] ≤ (16777215 : Nat)) ∧ (∀ (y_4 : List Int × Unit), Kd.wf
  (Kd.sl (Kd.int IntKind.u8)) y_4.fst ∧ True → y_4.fst = putB (y_1.fst, List.flatten [(List.getD x.fst (Int.toNat y.fst) (Kd.dft (Kd.pair (Kd.int IntKind.i64) Kd.str))).snd]) → (((isTagD (48
  : Int) = true ∧ lenF [y_3.fst, y_4.fst] ≤ (16777215 : Nat)) ∧ (∀ (y_5 : List Int × Unit), Kd.wf (Kd.sl (Kd.int IntKind.u8)) y_5.fst ∧ True → y_5.fst = putB ((48 : Int), List.flatten
  [y_3.fst, y_4.fst]) → (((isTagD (49 : Int) = true ∧ lenF [y_5.fst] ≤ (16777215 : Nat)) ∧ (∀ (y_6 : List Int × Unit), Kd.wf (Kd.sl (Kd.int IntKind.u8)) y_6.fst ∧ True → y_6.fst = putB ((49 :
  Int), List.flatten [y_5.fst]) → (((0 : Nat) < (1 : Nat) ∧ (List.length z.fst + List.length [y_6.fst]) * (24 : Nat) ≤ (140737488355328 : Nat) ∧ List.length z.fst + List.length [y_6.fst] ≤
  (9223372036854775807 : Nat) ∧ (↑(List.length x.fst) : Int) = (↑(List.length x.fst) : Int) ∧ x.fst = x.fst ∧ Value.bool false = Value.bool false ∧ (0 : Int) = (0 : Int) ∧ Value.slice none (0
  : Nat) (0 : Nat) = Value.slice none (0 : Nat) (0 : Nat) ∧ x.fst = x.fst ∧ I (IntKind.wrap IntKind.i64 (y.fst + (1 : Int)), ()) (z.fst ++ [y_6.fst], ()) ∧ μ (IntKind.wrap IntKind.i64 (y.fst
  + (1 : Int)), ()) (z.fst ++ [y_6.fst], ()) < μ y z) ∧ True) ∧ True) ∧ True) ∧ True) ∧ True) ∧ True) ∧ True) ∧ True) ∧ True) ∧ True) ∧ True) ∧ True) ∧ (((isTagD (6 : Int) = true ∧ lenF
  [y_2.fst] ≤ (16777215 : Nat)) ∧ (∀ (y_3 : List Int × Unit), Kd.wf (Kd.sl (Kd.int IntKind.u8)) y_3.fst ∧ True → y_3.fst = putB ((6 : Int), List.flatten [y_2.fst]) → ((isTagD y_1.fst = true ∧
  lenF [(List.getD x.fst (Int.toNat y.fst) (Kd.dft (Kd.pair (Kd.int IntKind.i64) Kd.str))).snd] ≤ (16777215 : Nat)) ∧ (∀ (y_4 : List Int × Unit), Kd.wf (Kd.sl (Kd.int IntKind.u8)) y_4.fst ∧
  True → y_4.fst = putB (y_1.fst, List.flatten [(List.getD x.fst (Int.toNat y.fst) (Kd.dft (Kd.pair (Kd.int IntKind.i64) Kd.str))).snd]) → (((isTagD (48 : Int) = true ∧ lenF [y_3.fst,
  y_4.fst] ≤ (16777215 : Nat)) ∧ (∀ (y_5 : List Int × Unit), Kd.wf (Kd.sl (Kd.int IntKind.u8)) y_5.fst ∧ True → y_5.fst = putB ((48 : Int), List.flatten [y_3.fst, y_4.fst]) → (((isTagD (49 :
  Int) = true ∧ lenF [y_5.fst] ≤ (16777215 : Nat)) ∧ (∀ (y_6 : List Int × Unit), Kd.wf (Kd.sl (Kd.int IntKind.u8)) y_6.fst ∧ True → y_6.fst = putB ((49 : Int), List.flatten [y_5.fst]) → (((0
  : Nat) < (1 : Nat) ∧ (List.length z.fst + List.length [y_6.fst]) * (24 : Nat) ≤ (140737488355328 : Nat) ∧ List.length z.fst + List.length [y_6.fst] ≤ (9223372036854775807 : Nat) ∧
  (↑(List.length x.fst) : Int) = (↑(List.length x.fst) : Int) ∧ x.fst = x.fst ∧ Value.bool false = Value.bool false ∧ (0 : Int) = (0 : Int) ∧ Value.slice none (0 : Nat) (0 : Nat) =
  Value.slice none (0 : Nat) (0 : Nat) ∧ x.fst = x.fst ∧ I (IntKind.wrap IntKind.i64 (y.fst + (1 : Int)), ()) (z.fst ++ [y_6.fst], ()) ∧ μ (IntKind.wrap IntKind.i64 (y.fst + (1 : Int)), ())
  (z.fst ++ [y_6.fst], ()) < μ y z) ∧ True) ∧ True) ∧ True) ∧ True) ∧ True) ∧ True) ∧ True) ∧ True) ∧ True) ∧ True) ∧ True) ∧ True) ∧ True) ∧ True) ∧ ((((isTagD (6 : Int) = true ∧ lenF
  [y_2.fst] ≤ (16777215 : Nat)) ∧ (∀ (y_3 : List Int × Unit), Kd.wf (Kd.sl (Kd.int IntKind.u8)) y_3.fst ∧ True → y_3.fst = putB ((6 : Int), List.flatten [y_2.fst]) → (((isTagD y_1.fst = true
  ∧ lenF [(List.getD x.fst (Int.toNat y.fst) (Kd.dft (Kd.pair (Kd.int IntKind.i64) Kd.str))).snd] ≤ (16777215 : Nat)) ∧ (∀ (y_4 : List Int × Unit), Kd.wf (Kd.sl (Kd.int IntKind.u8)) y_4.fst ∧
  True → y_4.fst = putB (y_1.fst, List.flatten [(List.getD x.fst (Int.toNat y.fst) (Kd.dft (Kd.pair (Kd.int IntKind.i64) Kd.str))).snd]) → (((isTagD (48 : Int) = true ∧ lenF [y_3.fst,
  y_4.fst] ≤ (16777215 : Nat)) ∧ (∀ (y_5 : List Int × Unit), Kd.wf (Kd.sl (Kd.int IntKind.u8)) y_5.fst ∧ True → y_5.fst = putB ((48 : Int), List.flatten [y_3.fst, y_4.fst]) → (((isTagD (49 :
  Int) = true ∧ lenF [y_5.fst] ≤ (16777215 : Nat)) ∧ (∀ (y_6 : List Int × Unit), Kd.wf (Kd.sl (Kd.int IntKind.u8)) y_6.fst ∧ True → y_6.fst = putB ((49 : Int), List.flatten [y_5.fst]) → (((0
  : Nat) < (1 : Nat) ∧ (List.length z.fst + List.length [y_6.fst]) * (24 : Nat) ≤ (140737488355328 : Nat) ∧ List.length z.fst + List.length [y_6.fst] ≤ (9223372036854775807 : Nat) ∧
  (↑(List.length x.fst) : Int) = (↑(List.length x.fst) : Int) ∧ x.fst = x.fst ∧ Value.bool false = Value.bool false ∧ (0 : Int) = (0 : Int) ∧ Value.slice none (0 : Nat) (0 : Nat) =
  Value.slice none (0 : Nat) (0 : Nat) ∧ x.fst = x.fst ∧ I (IntKind.wrap IntKind.i64 (y.fst + (1 : Int)), ()) (z.fst ++ [y_6.fst], ()) ∧ μ (IntKind.wrap IntKind.i64 (y.fst + (1 : Int)), ())
  (z.fst ++ [y_6.fst], ()) < μ y z) ∧ True) ∧ True) ∧ True) ∧ True) ∧ True) ∧ True) ∧ True) ∧ True) ∧ True) ∧ True) ∧ True) ∧ True) ∧ (((isTagD (6 : Int) = true ∧ lenF [y_2.fst] ≤ (16777215 :
  Nat)) ∧ (∀ (y_3 : List Int × Unit), Kd.wf (Kd.sl (Kd.int IntKind.u8)) y_3.fst ∧ True → y_3.fst = putB ((6 : Int), List.flatten [y_2.fst]) → ((isTagD y_1.fst = true ∧ lenF [(List.getD x.fst
  (Int.toNat y.fst) (Kd.dft (Kd.pair (Kd.int IntKind.i64) Kd.str))).snd] ≤ (16777215 : Nat)) ∧ (∀ (y_4 : List Int × Unit), Kd.wf (Kd.sl (Kd.int IntKind.u8)) y_4.fst ∧ True → y_4.fst = putB
  (y_1.fst, List.flatten [(List.getD x.fst (Int.toNat y.fst) (Kd.dft (Kd.pair (Kd.int IntKind.i64) Kd.str))).snd]) → (((isTagD (48 : Int) = true ∧ lenF [y_3.fst, y_4.fst] ≤ (16777215 : Nat))
  ∧ (∀ (y_5 : List Int × Unit), Kd.wf (Kd.sl (Kd.int IntKind.u8)) y_5.fst ∧ True → y_5.fst = putB ((48 : Int), List.flatten [y_3.fst, y_4.fst]) → (((isTagD (49 : Int) = true ∧ lenF [y_5.fst]
  ≤ (16777215 : Nat)) ∧ (∀ (y_6 : List Int × Unit), Kd.wf (Kd.sl (Kd.int IntKind.u8)) y_6.fst ∧ True → y_6.fst = putB ((49 : Int), List.flatten [y_5.fst]) → (((0 : Nat) < (1 : Nat) ∧
  (List.length z.fst + List.length [y_6.fst]) * (24 : Nat) ≤ (140737488355328 : Nat) ∧ List.length z.fst + List.length [y_6.fst] ≤ (9223372036854775807 : Nat) ∧ (↑(List.length x.fst) : Int) =
  (↑(List.length x.fst) : Int) ∧ x.fst = x.fst ∧ Value.bool false = Value.bool false ∧ (0 : Int) = (0 : Int) ∧ Value.slice none (0 : Nat) (0 : Nat) = Value.slice none (0 : Nat) (0 : Nat) ∧
  x.fst = x.fst ∧ I (IntKind.wrap IntKind.i64 (y.fst + (1 : Int)), ()) (z.fst ++ [y_6.fst], ()) ∧ μ (IntKind.wrap IntKind.i64 (y.fst + (1 : Int)), ()) (z.fst ++ [y_6.fst], ()) < μ y z) ∧
  True) ∧ True) ∧ True) ∧ True) ∧ True) ∧ True) ∧ True) ∧ True) ∧ True) ∧ True) ∧ True) ∧ True) ∧ True) ∧ ((((isTagD (6 : Int) = true ∧ lenF [y_2.fst] ≤ (16777215 : Nat)) ∧ (∀ (y_3 : List Int
  × Unit), Kd.wf (Kd.sl (Kd.int IntKind.u8)) y_3.fst ∧ True → y_3.fst = putB ((6 : Int), List.flatten [y_2.fst]) → ((isTagD y_1.fst = true ∧ lenF [(List.getD x.fst (Int.toNat y.fst) (Kd.dft
  (Kd.pair (Kd.int IntKind.i64) Kd.str))).snd] ≤ (16777215 : Nat)) ∧ (∀ (y_4 : List Int × Unit), Kd.wf (Kd.sl (Kd.int IntKind.u8)) y_4.fst ∧ True → y_4.fst = putB (y_1.fst, List.flatten
  [(List.getD x.fst (Int.toNat y.fst) (Kd.dft (Kd.pair (Kd.int IntKind.i64) Kd.str))).snd]) → (((isTagD (48 : Int) = true ∧ lenF [y_3.fst, y_4.fst] ≤ (16777215 : Nat)) ∧ (∀ (y_5 : List Int ×
  Unit), Kd.wf (Kd.sl (Kd.int IntKind.u8)) y_5.fst ∧ True → y_5.fst = putB ((48 : Int), List.flatten [y_3.fst, y_4.fst]) → (((isTagD (49 : Int) = true ∧ lenF [y_5.fst] ≤ (16777215 : Nat)) ∧
  (∀ (y_6 : List Int × Unit), Kd.wf (Kd.sl (Kd.int IntKind.u8)) y_6.fst ∧ True → y_6.fst = putB ((49 : Int), List.flatten [y_5.fst]) → (((0 : Nat) < (1 : Nat) ∧ (List.length z.fst +
  List.length [y_6.fst]) * (24 : Nat) ≤ (140737488355328 : Nat) ∧ List.length z.fst + List.length [y_6.fst] ≤ (9223372036854775807 : Nat) ∧ (↑(List.length x.fst) : Int) = (↑(List.length
  x.fst) : Int) ∧ x.fst = x.fst ∧ Value.bool false = Value.bool false ∧ (0 : Int) = (0 : Int) ∧ Value.slice none (0 : Nat) (0 : Nat) = Value.slice none (0 : Nat) (0 : Nat) ∧ x.fst = x.fst ∧ I
  (IntKind.wrap IntKind.i64 (y.fst + (1 : Int)), ()) (z.fst ++ [y_6.fst], ()) ∧ μ (IntKind.wrap IntKind.i64 (y.fst + (1 : Int)), ()) (z.fst ++ [y_6.fst], ()) < μ y z) ∧ True) ∧ True) ∧ True)
  ∧ True) ∧ True) ∧ True) ∧ True) ∧ True) ∧ True) ∧ True) ∧ True) ∧ True) ∧ True) ∧ True) ∧ True) ∧ True) ∧ True) ∧ True) ∧ (decide (y.fst < (↑(List.length x.fst) : Int)) = false → (isTagD
  (48 : Int) = true ∧ lenF z.fst ≤ (16777215 : Nat)) ∧ (∀ (y : List Int × Unit), Kd.wf (Kd.sl (Kd.int IntKind.u8)) y.fst ∧ True → y.fst = putB ((48 : Int), List.flatten z.fst) → (y.fst, (0 :
  Int)) = EncN x.fst) ∧ True))) ∧ True
theorem e25 : t25 = Con.vc c_name_Encode GL (mkEnv ty [(29, conSem c_name_May), (47, conSem c_text_Kind), (48, conSem c_oid_Encode), (49, conSem c_name_wrap)] [] [] [0, 2, 3, 4, 6, 7, 9, 13, 14, 15, 16, 17]) {} Tryd.f25.ntmps Tryd.f25.results.toList (bodyOf Tryd.f25) := by kernel_rfl
theorem k25 : t25 := by
  unfold t25
  rintro ⟨n, _⟩ hx hp
  have hp : n.length ≤ 1000000000 := hp
  try dsimp +instances only [dft_int, dft_sl, dft_str]
  simp only [true_and, and_true, eq_self_iff_true, implies_true, reduceCtorEq, false_implies, true_implies, decide_eq_true_eq, decide_eq_false_iff_not, beq_self_eq_true, Bool.not_eq_true', ne_eq, Decidable.not_not, List.nil_append, List.length_singleton, List.length_cons, List.length_nil, Nat.zero_add, Nat.add_zero, Nat.mul_one, and_self, beq_iff_eq, Bool.not_true, Bool.not_false, Bool.not_eq_false', Bool.cond_false_right, Bool.and_eq_true, imp_self, Bool.not_eq_true, Bool.cond_true_left, Bool.or_eq_true]
  simp only [adft_eq4]
  rintro ⟨m, _⟩ _ em
  simp only at em ⊢
  subst em
  refine ⟨fun h => by rw [EncN, if_neg (by rw [h]; decide)], fun h => ?_⟩
  obtain ⟨h16, hA⟩ := mayN_args h
  have hfl := flat_len n hA
  refine ⟨fun y z => 0 ≤ y.1 ∧ y.1 ≤ n.length ∧ z.1 = (n.take y.1.toNat).map attrE, fun y _ => ((n.length : Int) - y.1).toNat, ⟨Int.le_refl 0, by simp only; omega, rfl⟩, ?_⟩
  rintro ⟨i, _⟩ ⟨z, _⟩ _ _ ⟨i0, i1, ez⟩
  simp only at i0 i1 ez ⊢
  have hzl : z.length ≤ n.length := by rw [ez, List.length_map, List.length_take]; omega
  refine ⟨fun hlt => ⟨⟨i0, hlt⟩, by decide, ?_⟩, fun hge => ?_⟩
  · have hm := hA _ (mem_getD adft n i.toNat (by omega))
    have hst : (n.take (i.toNat + 1)).map attrE = z ++ [attrE (n.getD i.toNat adft)] := by rw [take_snocA adft n _ (by omega), List.map_append, ← ez]; rfl
    generalize n.getD i.toNat adft = a at hm hst
    have hv := mayA_len hm
    have hk := (may_kind hm).2
    have hB := attrB_len hm
    have hE := attrE_len hm
    have hr := label_range (mayA_label hm)
    have p1 : (putB (6, [85, 4, a.1])).length = 5 := put_small (x := (6, [85, 4, a.1])) (by simp)
    have p2 : (putB (elK a)).length = 2 + a.2.length := put_small (x := elK a) (by show a.2.length < 128; omega)
    rintro ⟨k, e, _⟩ _ ⟨ek, ee⟩
    simp only at ek ee ⊢
    rintro ⟨o, f, _⟩ _ eo
    simp only at eo ⊢
    rw [enc_oid hm] at eo
    obtain ⟨rfl, rfl⟩ := Prod.mk.inj eo
    refine ⟨⟨by decide, by simp [lenF]⟩, ?_⟩
    rintro ⟨w1, _⟩ _ e1
    simp only [flat_one] at e1 ⊢
    subst e1
    refine ⟨⟨by rw [ek]; rcases hk with h | h <;> rw [h] <;> decide, by rw [lenF, flat_one]; omega⟩, ?_⟩
    rintro ⟨w2, _⟩ _ e2
    simp only at e2 ⊢
    rw [ek] at e2
    have e2 : w2 = putB (elK a) := e2
    subst e2
    refine ⟨⟨by decide, by rw [lenF, flat_two, List.length_append]; omega⟩, ?_⟩
    rintro ⟨w3, _⟩ _ e3
    simp only [flat_two] at e3 ⊢
    have e3 : w3 = attrB a := e3
    subst e3
    refine ⟨⟨by decide, by rw [lenF, flat_one]; omega⟩, ?_⟩
    rintro ⟨w4, _⟩ _ e4
    simp only at e4 ⊢
    have e4 : w4 = attrE a := e4
    subst e4
    rw [wrapK (i + 1) (by omega) (by omega)]
    refine ⟨by decide, by omega, by omega, ⟨by omega, by omega, ?_⟩, by omega⟩
    rw [show (i + 1).toNat = i.toNat + 1 by omega, hst]
  · have ezz : z.flatten = n.flatMap attrE := by rw [ez, List.take_of_length_le (by omega)]; rfl
    refine ⟨⟨by decide, by rw [lenF, ezz]; omega⟩, ?_⟩
    rintro ⟨w, _⟩ _ ew
    simp only at ew ⊢
    rw [ezz] at ew
    rw [ew, EncN, if_pos h]
    rfl
theorem h25 : c_name_Encode.ok Tryd.prog GL 25 := con_ok (H := {}) (mkEnv_ok (gl := GL) (l := [(29, conSem c_name_May), (47, conSem c_text_Kind), (48, conSem c_oid_Encode), (49, conSem c_name_wrap)]) (q := []) (d := []) _ tyOk (by kernel_rfl) ⟨h29.call, h47.call, h48.call, h49.call, trivial⟩ trivial trivial) (by kernel_rfl) (by kernel_rfl) (Eq.mp e25 k25)

def t65 : Prop :=
  ∀ (x : List Int × Int × Unit), Kd.wf (Kd.sl (Kd.int IntKind.u8)) x.fst ∧ Kd.wf (Kd.int IntKind.i64) x.snd.fst ∧ True → lenB x.fst ≤ (100000000 : Nat) → lenB x.fst ≤ (1000000000 : Nat) ∧ (∀
  (y : (Int × List Int) × Int × Unit), Kd.wf (Kd.pair (Kd.int IntKind.i64) (Kd.sl (Kd.int IntKind.u8))) y.fst ∧ Kd.wf (Kd.int IntKind.i64) y.snd.fst ∧ True → (y.fst, y.snd.fst) = oneD x.fst →
  (2 : Nat) ≤ (65536 : Nat) ∧ (decide (y.snd.fst = (0 : Int)) = true → True) ∧ (decide (y.snd.fst = (0 : Int)) = true → (decide (y.snd.fst = (0 : Int)) == true) = true ∧ True) ∧ (decide
  (y.snd.fst = (0 : Int)) = true → True) ∧ (decide (y.snd.fst = (0 : Int)) = true → (decide (y.snd.fst = (0 : Int)) == true) = true ∧ (decide (y.snd.fst = (0 : Int)) == true) = true ∧ True) ∧
  (decide (y.snd.fst = (0 : Int)) = true → (decide (y.snd.fst = (0 : Int)) == true) = true) ∧ y.fst.snd = (oneD x.fst).fst.snd ∧ (bif decide (y.snd.fst = (0 : Int)) then decide (y.fst.fst =
  x.snd.fst) else false) = (decide ((oneD x.fst).snd = (0 : Int)) && decide ((oneD x.fst).fst.fst = x.snd.fst))) ∧ True
theorem e65 : t65 = Con.vc c_name_only GL (mkEnv ty [(42, conSem c_der_One)] [] [] [0, 1, 4, 5, 6, 7]) {} Tryd.f65.ntmps Tryd.f65.results.toList (bodyOf Tryd.f65) := by kernel_rfl
theorem k65 : t65 := by
  unfold t65
  rintro ⟨b, t, _⟩ hx hp
  have hp : b.length ≤ 100000000 := hp
  try dsimp +instances only [dft_int, dft_sl, dft_str]
  simp only [true_and, and_true, eq_self_iff_true, implies_true, reduceCtorEq, false_implies, true_implies, decide_eq_true_eq, decide_eq_false_iff_not, beq_self_eq_true, Bool.not_eq_true', ne_eq, Decidable.not_not, List.nil_append, List.length_singleton, List.length_cons, List.length_nil, Nat.zero_add, Nat.add_zero, Nat.mul_one, and_self, beq_iff_eq, Bool.not_true, Bool.not_false, Bool.not_eq_false', Bool.cond_false_right, Bool.and_eq_true, imp_self, Bool.not_eq_true, Bool.cond_true_left, Bool.or_eq_true]
  refine ⟨by rw [lenB]; omega, ?_⟩
  rintro ⟨x, e, _⟩ _ h
  simp only at h ⊢
  rw [← h]
  exact ⟨by decide, rfl, rfl⟩
theorem h65 : c_name_only.ok Tryd.prog GL 65 := con_ok (H := {}) (mkEnv_ok (gl := GL) (l := [(42, conSem c_der_One)]) (q := []) (d := []) _ tyOk (by kernel_rfl) ⟨h42.call, trivial⟩ trivial trivial) (by kernel_rfl) (by kernel_rfl) (Eq.mp e65 k65)

end Go.Proofs.YtcaekpbmmbfeiaaDoor
end
section
/- Contracts. -/
namespace Go.Proofs.YtcaekpbmmbfeiaaDoor
open Go Go.Vc Go.Pl Go.Proofs
def c_name_attr : Con := { args := [.dat BY], res := [.dat AT, .dat .bool], pre := fun x => lenB x.1 ≤ 100000000, post := fun x y => attrQ x.1 y.1 y.2.1 = true }
def c_name_Decode : Con := { args := [.dat BY], res := [.own 56 AT, .dat I64], pre := fun x => lenB x.1 ≤ 100000000, post := fun x y => decQ x.1 y.1 y.2.1 = true }

end Go.Proofs.YtcaekpbmmbfeiaaDoor
end
section
/- Walks. -/
namespace Go.Proofs.YtcaekpbmmbfeiaaDoor
open Go Go.Vc Go.Pl Go.Proofs
set_option linter.unusedVariables false
set_option linter.unusedSimpArgs false
set_option maxRecDepth 20000
def t44 : Prop :=
  ∀ (x : List Int × Unit), Kd.wf (Kd.sl (Kd.int IntKind.u8)) x.fst ∧ True → lenB x.fst ≤ (100000000 : Nat) → (2 : Nat) ≤ (65536 : Nat) ∧ lenB x.fst ≤ (100000000 : Nat) ∧ (∀ (y : List Int ×
  Bool × Unit), Kd.wf (Kd.sl (Kd.int IntKind.u8)) y.fst ∧ Kd.wf Kd.bool y.snd.fst ∧ True → y.fst = (oneD x.fst).fst.snd ∧ y.snd.fst = (decide ((oneD x.fst).snd = (0 : Int)) && decide ((oneD
  x.fst).fst.fst = (48 : Int))) → lenB y.fst ≤ (1000000000 : Nat) ∧ (∀ (y_1 : List (Int × List Int) × Int × Int × Unit), Kd.wf (Kd.sl (Kd.pair (Kd.int IntKind.i64) (Kd.sl (Kd.int
  IntKind.u8)))) y_1.fst ∧ Kd.wf (Kd.int IntKind.i64) y_1.snd.fst ∧ Kd.wf (Kd.int IntKind.i64) y_1.snd.snd.fst ∧ True → (y_1.fst, y_1.snd.fst, y_1.snd.snd.fst) = allD y.fst → ((!y.snd.fst) =
  false → True) ∧ ((!y.snd.fst) = false → ((!y.snd.fst) == false) = true ∧ True) ∧ ((!y.snd.fst) = false → ((!y.snd.fst) == false) = true) ∧ ((bif !y.snd.fst then true else decide
  (y_1.snd.snd.fst ≠ (0 : Int))) = false → True) ∧ ((bif !y.snd.fst then true else decide (y_1.snd.snd.fst ≠ (0 : Int))) = false → ((bif !y.snd.fst then true else decide (y_1.snd.snd.fst ≠ (0
  : Int))) == false) = true ∧ True) ∧ ((bif !y.snd.fst then true else decide (y_1.snd.snd.fst ≠ (0 : Int))) = false → ((bif !y.snd.fst then true else decide (y_1.snd.snd.fst ≠ (0 : Int))) ==
  false) = true ∧ True) ∧ ((bif !y.snd.fst then true else decide (y_1.snd.snd.fst ≠ (0 : Int))) = false → ((bif !y.snd.fst then true else decide (y_1.snd.snd.fst ≠ (0 : Int))) == false) =
  true) ∧ ((bif bif !y.snd.fst then true else decide (y_1.snd.snd.fst ≠ (0 : Int)) then true else decide ((↑(List.length y_1.fst) : Int) ≠ (2 : Int))) = false → True) ∧ ((bif bif !y.snd.fst
  then true else decide (y_1.snd.snd.fst ≠ (0 : Int)) then true else decide ((↑(List.length y_1.fst) : Int) ≠ (2 : Int))) = false → ((bif bif !y.snd.fst then true else decide (y_1.snd.snd.fst
  ≠ (0 : Int)) then true else decide ((↑(List.length y_1.fst) : Int) ≠ (2 : Int))) == false) = true ∧ ((0 : Int) ≤ (0 : Int) ∧ (0 : Int) < (↑(List.length y_1.fst) : Int)) ∧ True) ∧ ((bif bif
  !y.snd.fst then true else decide (y_1.snd.snd.fst ≠ (0 : Int)) then true else decide ((↑(List.length y_1.fst) : Int) ≠ (2 : Int))) = false → ((bif bif !y.snd.fst then true else decide
  (y_1.snd.snd.fst ≠ (0 : Int)) then true else decide ((↑(List.length y_1.fst) : Int) ≠ (2 : Int))) == false) = true ∧ True) ∧ ((bif bif !y.snd.fst then true else decide (y_1.snd.snd.fst ≠ (0
  : Int)) then true else decide ((↑(List.length y_1.fst) : Int) ≠ (2 : Int))) = false → ((bif bif !y.snd.fst then true else decide (y_1.snd.snd.fst ≠ (0 : Int)) then true else decide
  ((↑(List.length y_1.fst) : Int) ≠ (2 : Int))) == false) = true ∧ True) ∧ ((bif bif !y.snd.fst then true else decide (y_1.snd.snd.fst ≠ (0 : Int)) then true else decide ((↑(List.length
  y_1.fst) : Int) ≠ (2 : Int))) = false → ((bif bif !y.snd.fst then true else decide (y_1.snd.snd.fst ≠ (0 : Int)) then true else decide ((↑(List.length y_1.fst) : Int) ≠ (2 : Int))) ==
  false) = true ∧ True) ∧ ((bif bif !y.snd.fst then true else decide (y_1.snd.snd.fst ≠ (0 : Int)) then true else decide ((↑(List.length y_1.fst) : Int) ≠ (2 : Int))) = false → ((bif bif
  !y.snd.fst then true else decide (y_1.snd.snd.fst ≠ (0 : Int)) then true else decide ((↑(List.length y_1.fst) : Int) ≠ (2 : Int))) == false) = true) ∧ ((bif bif bif !y.snd.fst then true
  else decide (y_1.snd.snd.fst ≠ (0 : Int)) then true else decide ((↑(List.length y_1.fst) : Int) ≠ (2 : Int)) then true else decide ((List.getD y_1.fst (0 : Nat) (Kd.dft (Kd.pair (Kd.int
  IntKind.i64) (Kd.sl (Kd.int IntKind.u8))))).fst ≠ (6 : Int))) = true → attrQ x.fst ((0 : Int), bs { data := #[] }) false = true) ∧ ((bif bif bif !y.snd.fst then true else decide
  (y_1.snd.snd.fst ≠ (0 : Int)) then true else decide ((↑(List.length y_1.fst) : Int) ≠ (2 : Int)) then true else decide ((List.getD y_1.fst (0 : Nat) (Kd.dft (Kd.pair (Kd.int IntKind.i64)
  (Kd.sl (Kd.int IntKind.u8))))).fst ≠ (6 : Int))) = false → ((0 : Int) ≤ (0 : Int) ∧ (0 : Int) < (↑(List.length y_1.fst) : Int)) ∧ True ∧ (∀ (y_2 : List Int × Int × Unit), Kd.wf (Kd.sl
  (Kd.int IntKind.i64)) y_2.fst ∧ Kd.wf (Kd.int IntKind.i64) y_2.snd.fst ∧ True → (y_2.fst, y_2.snd.fst) = DecD (List.getD y_1.fst (0 : Nat) (Kd.dft (Kd.pair (Kd.int IntKind.i64) (Kd.sl
  (Kd.int IntKind.u8))))).snd → ∃ (J : Bool × Unit → (Int × List Int × Unit) × List (Int × List Int) × List Int × Unit → Prop), ((decide (y_2.snd.fst ≠ (0 : Int)) = false → True) ∧ (decide
  (y_2.snd.fst ≠ (0 : Int)) = false → (decide (y_2.snd.fst ≠ (0 : Int)) == false) = true ∧ True) ∧ (decide (y_2.snd.fst ≠ (0 : Int)) = false → (decide (y_2.snd.fst ≠ (0 : Int)) == false) =
  true ∧ True) ∧ (decide (y_2.snd.fst ≠ (0 : Int)) = false → (decide (y_2.snd.fst ≠ (0 : Int)) == false) = true) ∧ ((bif decide (y_2.snd.fst ≠ (0 : Int)) then true else decide ((↑(List.length
  y_2.fst) : Int) ≠ (4 : Int))) = false → True) ∧ ((bif decide (y_2.snd.fst ≠ (0 : Int)) then true else decide ((↑(List.length y_2.fst) : Int) ≠ (4 : Int))) = false → ((bif decide
  (y_2.snd.fst ≠ (0 : Int)) then true else decide ((↑(List.length y_2.fst) : Int) ≠ (4 : Int))) == false) = true ∧ True ∧ (∀ (y_3 : Bool × Unit), Kd.wf Kd.bool y_3.fst ∧ True → y_3.fst =
  decide (List.take (List.length [(2 : Int), (5 : Int), (4 : Int)]) y_2.fst = [(2 : Int), (5 : Int), (4 : Int)]) → ((!y_3.fst) = true → attrQ x.fst ((0 : Int), bs { data := #[] }) false =
  true) ∧ ((!y_3.fst) = false → y_2.snd.fst = y_2.snd.fst ∧ Value.bool false = Value.bool false ∧ y.snd.fst = y.snd.fst ∧ y.fst = y.fst ∧ x.fst = x.fst ∧ J (false, ()) (((0 : Int), bs { data
  := #[] }, ()), y_1.fst, y_2.fst, ()))) ∧ True) ∧ ((bif decide (y_2.snd.fst ≠ (0 : Int)) then true else decide ((↑(List.length y_2.fst) : Int) ≠ (4 : Int))) = !false → attrQ x.fst ((0 :
  Int), bs { data := #[] }) false = true)) ∧ ∀ (u : Bool × Unit) (z : (Int × List Int × Unit) × List (Int × List Int) × List Int × Unit), Kd.wf Kd.bool u.fst ∧ True → (Kd.wf (Kd.int
  IntKind.i64) z.fst.fst ∧ Kd.wf Kd.str z.fst.snd.fst ∧ True) ∧ Kd.wf (Kd.sl (Kd.pair (Kd.int IntKind.i64) (Kd.sl (Kd.int IntKind.u8)))) z.snd.fst ∧ Kd.wf (Kd.sl (Kd.int IntKind.i64))
  z.snd.snd.fst ∧ True → J u z → ∃ (J : Unit → (Int × List Int × Unit) × List (Int × List Int) × List Int × (Int × List Int × Unit) × Unit → Prop), (((0 : Int) ≤ (3 : Int) ∧ (3 : Int) <
  (↑(List.length z.snd.snd.fst) : Int)) ∧ ((0 : Int) ≤ (1 : Int) ∧ (1 : Int) < (↑(List.length z.snd.fst) : Int)) ∧ ((((((2 : Nat) ≤ (65536 : Nat) ∧ (y_2.snd.fst = y_2.snd.fst ∧ Value.bool
  false = Value.bool false ∧ y.snd.fst = y.snd.fst ∧ y.fst = y.fst ∧ u.fst = u.fst ∧ x.fst = x.fst ∧ J () ((z.fst.fst, z.fst.snd.fst, ()), z.snd.fst, z.snd.snd.fst, (List.getD z.snd.snd.fst
  (3 : Nat) (Kd.dft (Kd.int IntKind.i64)), (List.getD z.snd.fst (1 : Nat) (Kd.dft (Kd.pair (Kd.int IntKind.i64) (Kd.sl (Kd.int IntKind.u8))))).snd, ()), ())) ∧ True) ∧ True) ∧ ((2 : Nat) ≤
  (65536 : Nat) ∧ ((y_2.snd.fst = y_2.snd.fst ∧ Value.bool false = Value.bool false ∧ y.snd.fst = y.snd.fst ∧ y.fst = y.fst ∧ u.fst = u.fst ∧ x.fst = x.fst ∧ J () ((z.fst.fst, z.fst.snd.fst,
  ()), z.snd.fst, z.snd.snd.fst, (List.getD z.snd.snd.fst (3 : Nat) (Kd.dft (Kd.int IntKind.i64)), (List.getD z.snd.fst (1 : Nat) (Kd.dft (Kd.pair (Kd.int IntKind.i64) (Kd.sl (Kd.int
  IntKind.u8))))).snd, ()), ())) ∧ True) ∧ True) ∧ True) ∧ ((2 : Nat) ≤ (65536 : Nat) ∧ (((y_2.snd.fst = y_2.snd.fst ∧ Value.bool false = Value.bool false ∧ y.snd.fst = y.snd.fst ∧ y.fst =
  y.fst ∧ u.fst = u.fst ∧ x.fst = x.fst ∧ J () ((z.fst.fst, z.fst.snd.fst, ()), z.snd.fst, z.snd.snd.fst, (List.getD z.snd.snd.fst (3 : Nat) (Kd.dft (Kd.int IntKind.i64)), (List.getD
  z.snd.fst (1 : Nat) (Kd.dft (Kd.pair (Kd.int IntKind.i64) (Kd.sl (Kd.int IntKind.u8))))).snd, ()), ())) ∧ True) ∧ True) ∧ True) ∧ True) ∧ ((2 : Nat) ≤ (65536 : Nat) ∧ ((((y_2.snd.fst =
  y_2.snd.fst ∧ Value.bool false = Value.bool false ∧ y.snd.fst = y.snd.fst ∧ y.fst = y.fst ∧ u.fst = u.fst ∧ x.fst = x.fst ∧ J () ((z.fst.fst, z.fst.snd.fst, ()), z.snd.fst, z.snd.snd.fst,
  (List.getD z.snd.snd.fst (3 : Nat) (Kd.dft (Kd.int IntKind.i64)), (List.getD z.snd.fst (1 : Nat) (Kd.dft (Kd.pair (Kd.int IntKind.i64) (Kd.sl (Kd.int IntKind.u8))))).snd, ()), ())) ∧ True)
  ∧ True) ∧ True) ∧ True) ∧ True) ∧ ((((((2 : Nat) ≤ (65536 : Nat) ∧ (y_2.snd.fst = y_2.snd.fst ∧ Value.bool false = Value.bool false ∧ y.snd.fst = y.snd.fst ∧ y.fst = y.fst ∧ u.fst = u.fst ∧
  x.fst = x.fst ∧ J () ((z.fst.fst, z.fst.snd.fst, ()), z.snd.fst, z.snd.snd.fst, (List.getD z.snd.snd.fst (3 : Nat) (Kd.dft (Kd.int IntKind.i64)), (List.getD z.snd.fst (1 : Nat) (Kd.dft
  (Kd.pair (Kd.int IntKind.i64) (Kd.sl (Kd.int IntKind.u8))))).snd, ()), ())) ∧ True) ∧ True) ∧ ((2 : Nat) ≤ (65536 : Nat) ∧ ((y_2.snd.fst = y_2.snd.fst ∧ Value.bool false = Value.bool false
  ∧ y.snd.fst = y.snd.fst ∧ y.fst = y.fst ∧ u.fst = u.fst ∧ x.fst = x.fst ∧ J () ((z.fst.fst, z.fst.snd.fst, ()), z.snd.fst, z.snd.snd.fst, (List.getD z.snd.snd.fst (3 : Nat) (Kd.dft (Kd.int
  IntKind.i64)), (List.getD z.snd.fst (1 : Nat) (Kd.dft (Kd.pair (Kd.int IntKind.i64) (Kd.sl (Kd.int IntKind.u8))))).snd, ()), ())) ∧ True) ∧ True) ∧ True) ∧ ((2 : Nat) ≤ (65536 : Nat) ∧
  (((y_2.snd.fst = y_2.snd.fst ∧ Value.bool false = Value.bool false ∧ y.snd.fst = y.snd.fst ∧ y.fst = y.fst ∧ u.fst = u.fst ∧ x.fst = x.fst ∧ J () ((z.fst.fst, z.fst.snd.fst, ()), z.snd.fst,
  z.snd.snd.fst, (List.getD z.snd.snd.fst (3 : Nat) (Kd.dft (Kd.int IntKind.i64)), (List.getD z.snd.fst (1 : Nat) (Kd.dft (Kd.pair (Kd.int IntKind.i64) (Kd.sl (Kd.int IntKind.u8))))).snd,
  ()), ())) ∧ True) ∧ True) ∧ True) ∧ True) ∧ (((((2 : Nat) ≤ (65536 : Nat) ∧ (y_2.snd.fst = y_2.snd.fst ∧ Value.bool false = Value.bool false ∧ y.snd.fst = y.snd.fst ∧ y.fst = y.fst ∧ u.fst
  = u.fst ∧ x.fst = x.fst ∧ J () ((z.fst.fst, z.fst.snd.fst, ()), z.snd.fst, z.snd.snd.fst, (List.getD z.snd.snd.fst (3 : Nat) (Kd.dft (Kd.int IntKind.i64)), (List.getD z.snd.fst (1 : Nat)
  (Kd.dft (Kd.pair (Kd.int IntKind.i64) (Kd.sl (Kd.int IntKind.u8))))).snd, ()), ())) ∧ True) ∧ True) ∧ ((2 : Nat) ≤ (65536 : Nat) ∧ ((y_2.snd.fst = y_2.snd.fst ∧ Value.bool false =
  Value.bool false ∧ y.snd.fst = y.snd.fst ∧ y.fst = y.fst ∧ u.fst = u.fst ∧ x.fst = x.fst ∧ J () ((z.fst.fst, z.fst.snd.fst, ()), z.snd.fst, z.snd.snd.fst, (List.getD z.snd.snd.fst (3 : Nat)
  (Kd.dft (Kd.int IntKind.i64)), (List.getD z.snd.fst (1 : Nat) (Kd.dft (Kd.pair (Kd.int IntKind.i64) (Kd.sl (Kd.int IntKind.u8))))).snd, ()), ())) ∧ True) ∧ True) ∧ True) ∧ ((2 : Nat) ≤
  (65536 : Nat) ∧ (((y_2.snd.fst = y_2.snd.fst ∧ Value.bool false = Value.bool false ∧ y.snd.fst = y.snd.fst ∧ y.fst = y.fst ∧ u.fst = u.fst ∧ x.fst = x.fst ∧ J () ((z.fst.fst, z.fst.snd.fst,
  ()), z.snd.fst, z.snd.snd.fst, (List.getD z.snd.snd.fst (3 : Nat) (Kd.dft (Kd.int IntKind.i64)), (List.getD z.snd.fst (1 : Nat) (Kd.dft (Kd.pair (Kd.int IntKind.i64) (Kd.sl (Kd.int
  IntKind.u8))))).snd, ()), ())) ∧ True) ∧ True) ∧ True) ∧ True) ∧ ((2 : Nat) ≤ (65536 : Nat) ∧ ((((y_2.snd.fst = y_2.snd.fst ∧ Value.bool false = Value.bool false ∧ y.snd.fst = y.snd.fst ∧
  y.fst = y.fst ∧ u.fst = u.fst ∧ x.fst = x.fst ∧ J () ((z.fst.fst, z.fst.snd.fst, ()), z.snd.fst, z.snd.snd.fst, (List.getD z.snd.snd.fst (3 : Nat) (Kd.dft (Kd.int IntKind.i64)), (List.getD
  z.snd.fst (1 : Nat) (Kd.dft (Kd.pair (Kd.int IntKind.i64) (Kd.sl (Kd.int IntKind.u8))))).snd, ()), ())) ∧ True) ∧ True) ∧ True) ∧ ((((y_2.snd.fst = y_2.snd.fst ∧ Value.bool false =
  Value.bool false ∧ y.snd.fst = y.snd.fst ∧ y.fst = y.fst ∧ u.fst = u.fst ∧ x.fst = x.fst ∧ J () ((z.fst.fst, z.fst.snd.fst, ()), z.snd.fst, z.snd.snd.fst, (List.getD z.snd.snd.fst (3 : Nat)
  (Kd.dft (Kd.int IntKind.i64)), (List.getD z.snd.fst (1 : Nat) (Kd.dft (Kd.pair (Kd.int IntKind.i64) (Kd.sl (Kd.int IntKind.u8))))).snd, ()), ())) ∧ True) ∧ True) ∧ True) ∧ True) ∧ True) ∧
  ((2 : Nat) ≤ (65536 : Nat) ∧ (((((y_2.snd.fst = y_2.snd.fst ∧ Value.bool false = Value.bool false ∧ y.snd.fst = y.snd.fst ∧ y.fst = y.fst ∧ u.fst = u.fst ∧ x.fst = x.fst ∧ J () ((z.fst.fst,
  z.fst.snd.fst, ()), z.snd.fst, z.snd.snd.fst, (List.getD z.snd.snd.fst (3 : Nat) (Kd.dft (Kd.int IntKind.i64)), (List.getD z.snd.fst (1 : Nat) (Kd.dft (Kd.pair (Kd.int IntKind.i64) (Kd.sl
  (Kd.int IntKind.u8))))).snd, ()), ())) ∧ True) ∧ True) ∧ True) ∧ True) ∧ (((((y_2.snd.fst = y_2.snd.fst ∧ Value.bool false = Value.bool false ∧ y.snd.fst = y.snd.fst ∧ y.fst = y.fst ∧ u.fst
  = u.fst ∧ x.fst = x.fst ∧ J () ((z.fst.fst, z.fst.snd.fst, ()), z.snd.fst, z.snd.snd.fst, (List.getD z.snd.snd.fst (3 : Nat) (Kd.dft (Kd.int IntKind.i64)), (List.getD z.snd.fst (1 : Nat)
  (Kd.dft (Kd.pair (Kd.int IntKind.i64) (Kd.sl (Kd.int IntKind.u8))))).snd, ()), ())) ∧ True) ∧ True) ∧ True) ∧ ((((y_2.snd.fst = y_2.snd.fst ∧ Value.bool false = Value.bool false ∧ y.snd.fst
  = y.snd.fst ∧ y.fst = y.fst ∧ u.fst = u.fst ∧ x.fst = x.fst ∧ J () ((z.fst.fst, z.fst.snd.fst, ()), z.snd.fst, z.snd.snd.fst, (List.getD z.snd.snd.fst (3 : Nat) (Kd.dft (Kd.int
  IntKind.i64)), (List.getD z.snd.fst (1 : Nat) (Kd.dft (Kd.pair (Kd.int IntKind.i64) (Kd.sl (Kd.int IntKind.u8))))).snd, ()), ())) ∧ True) ∧ True) ∧ True) ∧ True) ∧ True) ∧ True) ∧ ∀ (u :
  Unit) (z : (Int × List Int × Unit) × List (Int × List Int) × List Int × (Int × List Int × Unit) × Unit), True → (Kd.wf (Kd.int IntKind.i64) z.fst.fst ∧ Kd.wf Kd.str z.fst.snd.fst ∧ True) ∧
  Kd.wf (Kd.sl (Kd.pair (Kd.int IntKind.i64) (Kd.sl (Kd.int IntKind.u8)))) z.snd.fst ∧ Kd.wf (Kd.sl (Kd.int IntKind.i64)) z.snd.snd.fst ∧ (Kd.wf (Kd.int IntKind.i64) z.snd.snd.snd.fst.fst ∧
  Kd.wf Kd.str z.snd.snd.snd.fst.snd.fst ∧ True) ∧ True → J u z → True ∧ (∀ (y : Int × Int × Unit), Kd.wf (Kd.int IntKind.i64) y.fst ∧ Kd.wf (Kd.int IntKind.i64) y.snd.fst ∧ True → y.fst =
  (kindD z.snd.snd.snd.fst.snd.fst).fst ∧ y.snd.fst = (kindD z.snd.snd.snd.fst.snd.fst).snd → (decide (y.snd.fst = (0 : Int)) = true → (decide (y.snd.fst = (0 : Int)) == true) = true ∧ ((0 :
  Int) ≤ (1 : Int) ∧ (1 : Int) < (↑(List.length z.snd.fst) : Int)) ∧ True) ∧ (decide (y.snd.fst = (0 : Int)) = true → (decide (y.snd.fst = (0 : Int)) == true) = true ∧ True) ∧ (((decide
  (y.snd.fst = (0 : Int)) = true → (decide (y.snd.fst = (0 : Int)) == true) = true ∧ True) ∧ ((decide (y.snd.fst = (0 : Int)) = true → (decide (y.snd.fst = (0 : Int)) == true) = true ∧
  (decide (y.snd.fst = (0 : Int)) == true) = true ∧ True) ∧ ((decide (y.snd.fst = (0 : Int)) = true → (decide (y.snd.fst = (0 : Int)) == true) = true) ∧ (((bif decide (y.snd.fst = (0 : Int))
  then decide (y.fst = (List.getD z.snd.fst (1 : Nat) (Kd.dft (Kd.pair (Kd.int IntKind.i64) (Kd.sl (Kd.int IntKind.u8))))).fst) else false) = true → True) ∧ (((bif decide (y.snd.fst = (0 :
  Int)) then decide (y.fst = (List.getD z.snd.fst (1 : Nat) (Kd.dft (Kd.pair (Kd.int IntKind.i64) (Kd.sl (Kd.int IntKind.u8))))).fst) else false) = true → ((bif decide (y.snd.fst = (0 : Int))
  then decide (y.fst = (List.getD z.snd.fst (1 : Nat) (Kd.dft (Kd.pair (Kd.int IntKind.i64) (Kd.sl (Kd.int IntKind.u8))))).fst) else false) == true) = true ∧ True ∧ (∀ (y : Bool × Unit),
  Kd.wf Kd.bool y.fst ∧ True → y.fst = mayA (z.snd.snd.snd.fst.fst, z.snd.snd.snd.fst.snd.fst) → (attrQ x.fst (z.snd.snd.snd.fst.fst, z.snd.snd.snd.fst.snd.fst) y.fst = true ∧ True) ∧ (attrQ
  x.fst (z.snd.snd.snd.fst.fst, z.snd.snd.snd.fst.snd.fst) y.fst = true ∧ True) ∧ True) ∧ True) ∧ ((bif decide (y.snd.fst = (0 : Int)) then decide (y.fst = (List.getD z.snd.fst (1 : Nat)
  (Kd.dft (Kd.pair (Kd.int IntKind.i64) (Kd.sl (Kd.int IntKind.u8))))).fst) else false) = !true → (attrQ x.fst (z.snd.snd.snd.fst.fst, z.snd.snd.snd.fst.snd.fst) false = true ∧ True) ∧ (attrQ
  x.fst (z.snd.snd.snd.fst.fst, z.snd.snd.snd.fst.snd.fst) false = true ∧ True) ∧ True)) ∧ True) ∧ True) ∧ True) ∧ True) ∧ True) ∧ ((decide (y.snd.fst = (0 : Int)) = true → (decide (y.snd.fst
  = (0 : Int)) == true) = true ∧ True) ∧ (((decide (y.snd.fst = (0 : Int)) = true → (decide (y.snd.fst = (0 : Int)) == true) = true ∧ (decide (y.snd.fst = (0 : Int)) == true) = true ∧ True) ∧
  ((decide (y.snd.fst = (0 : Int)) = true → (decide (y.snd.fst = (0 : Int)) == true) = true) ∧ (((bif decide (y.snd.fst = (0 : Int)) then decide (y.fst = (List.getD z.snd.fst (1 : Nat)
  (Kd.dft (Kd.pair (Kd.int IntKind.i64) (Kd.sl (Kd.int IntKind.u8))))).fst) else false) = true → True) ∧ (((bif decide (y.snd.fst = (0 : Int)) then decide (y.fst = (List.getD z.snd.fst (1 :
  Nat) (Kd.dft (Kd.pair (Kd.int IntKind.i64) (Kd.sl (Kd.int IntKind.u8))))).fst) else false) = true → ((bif decide (y.snd.fst = (0 : Int)) then decide (y.fst = (List.getD z.snd.fst (1 : Nat)
  (Kd.dft (Kd.pair (Kd.int IntKind.i64) (Kd.sl (Kd.int IntKind.u8))))).fst) else false) == true) = true ∧ True ∧ (∀ (y : Bool × Unit), Kd.wf Kd.bool y.fst ∧ True → y.fst = mayA
  (z.snd.snd.snd.fst.fst, z.snd.snd.snd.fst.snd.fst) → (attrQ x.fst (z.snd.snd.snd.fst.fst, z.snd.snd.snd.fst.snd.fst) y.fst = true ∧ True) ∧ (attrQ x.fst (z.snd.snd.snd.fst.fst,
  z.snd.snd.snd.fst.snd.fst) y.fst = true ∧ True) ∧ True) ∧ True) ∧ ((bif decide (y.snd.fst = (0 : Int)) then decide (y.fst = (List.getD z.snd.fst (1 : Nat) (Kd.dft (Kd.pair (Kd.int
  IntKind.i64) (Kd.sl (Kd.int IntKind.u8))))).fst) else false) = !true → (attrQ x.fst (z.snd.snd.snd.fst.fst, z.snd.snd.snd.fst.snd.fst) false = true ∧ True) ∧ (attrQ x.fst
  (z.snd.snd.snd.fst.fst, z.snd.snd.snd.fst.snd.fst) false = true ∧ True) ∧ True)) ∧ True) ∧ True) ∧ True) ∧ True) ∧ ((decide (y.snd.fst = (0 : Int)) = true → (decide (y.snd.fst = (0 : Int))
  == true) = true ∧ (decide (y.snd.fst = (0 : Int)) == true) = true ∧ True) ∧ (((decide (y.snd.fst = (0 : Int)) = true → (decide (y.snd.fst = (0 : Int)) == true) = true) ∧ (((bif decide
  (y.snd.fst = (0 : Int)) then decide (y.fst = (List.getD z.snd.fst (1 : Nat) (Kd.dft (Kd.pair (Kd.int IntKind.i64) (Kd.sl (Kd.int IntKind.u8))))).fst) else false) = true → True) ∧ (((bif
  decide (y.snd.fst = (0 : Int)) then decide (y.fst = (List.getD z.snd.fst (1 : Nat) (Kd.dft (Kd.pair (Kd.int IntKind.i64) (Kd.sl (Kd.int IntKind.u8))))).fst) else false) = true → ((bif
  decide (y.snd.fst = (0 : Int)) then decide (y.fst = (List.getD z.snd.fst (1 : Nat) (Kd.dft (Kd.pair (Kd.int IntKind.i64) (Kd.sl (Kd.int IntKind.u8))))).fst) else false) == true) = true ∧
  True ∧ (∀ (y : Bool × Unit), Kd.wf Kd.bool y.fst ∧ True → y.fst = mayA (z.snd.snd.snd.fst.fst, z.snd.snd.snd.fst.snd.fst) → (attrQ x.fst (z.snd.snd.snd.fst.fst, z.snd.snd.snd.fst.snd.fst)
  y.fst = true ∧ True) ∧ (attrQ x.fst (z.snd.snd.snd.fst.fst, z.snd.snd.snd.fst.snd.fst) y.fst = true ∧ True) ∧ True) ∧ True) ∧ ((bif decide (y.snd.fst = (0 : Int)) then decide (y.fst =
  (List.getD z.snd.fst (1 : Nat) (Kd.dft (Kd.pair (Kd.int IntKind.i64) (Kd.sl (Kd.int IntKind.u8))))).fst) else false) = !true → (attrQ x.fst (z.snd.snd.snd.fst.fst,
  z.snd.snd.snd.fst.snd.fst) false = true ∧ True) ∧ (attrQ x.fst (z.snd.snd.snd.fst.fst, z.snd.snd.snd.fst.snd.fst) false = true ∧ True) ∧ True)) ∧ True) ∧ True) ∧ True) ∧ ((decide (y.snd.fst
  = (0 : Int)) = true → (decide (y.snd.fst = (0 : Int)) == true) = true) ∧ ((((bif decide (y.snd.fst = (0 : Int)) then decide (y.fst = (List.getD z.snd.fst (1 : Nat) (Kd.dft (Kd.pair (Kd.int
  IntKind.i64) (Kd.sl (Kd.int IntKind.u8))))).fst) else false) = true → True) ∧ (((bif decide (y.snd.fst = (0 : Int)) then decide (y.fst = (List.getD z.snd.fst (1 : Nat) (Kd.dft (Kd.pair
  (Kd.int IntKind.i64) (Kd.sl (Kd.int IntKind.u8))))).fst) else false) = true → ((bif decide (y.snd.fst = (0 : Int)) then decide (y.fst = (List.getD z.snd.fst (1 : Nat) (Kd.dft (Kd.pair
  (Kd.int IntKind.i64) (Kd.sl (Kd.int IntKind.u8))))).fst) else false) == true) = true ∧ True ∧ (∀ (y : Bool × Unit), Kd.wf Kd.bool y.fst ∧ True → y.fst = mayA (z.snd.snd.snd.fst.fst,
  z.snd.snd.snd.fst.snd.fst) → (attrQ x.fst (z.snd.snd.snd.fst.fst, z.snd.snd.snd.fst.snd.fst) y.fst = true ∧ True) ∧ (attrQ x.fst (z.snd.snd.snd.fst.fst, z.snd.snd.snd.fst.snd.fst) y.fst =
  true ∧ True) ∧ True) ∧ True) ∧ ((bif decide (y.snd.fst = (0 : Int)) then decide (y.fst = (List.getD z.snd.fst (1 : Nat) (Kd.dft (Kd.pair (Kd.int IntKind.i64) (Kd.sl (Kd.int
  IntKind.u8))))).fst) else false) = !true → (attrQ x.fst (z.snd.snd.snd.fst.fst, z.snd.snd.snd.fst.snd.fst) false = true ∧ True) ∧ (attrQ x.fst (z.snd.snd.snd.fst.fst,
  z.snd.snd.snd.fst.snd.fst) false = true ∧ True) ∧ True)) ∧ True) ∧ True) ∧ (((bif decide (y.snd.fst = (0 : Int)) then decide (y.fst = (List.getD z.snd.fst (1 : Nat) (Kd.dft (Kd.pair (Kd.int
  IntKind.i64) (Kd.sl (Kd.int IntKind.u8))))).fst) else false) = true → True) ∧ ((((bif decide (y.snd.fst = (0 : Int)) then decide (y.fst = (List.getD z.snd.fst (1 : Nat) (Kd.dft (Kd.pair
  (Kd.int IntKind.i64) (Kd.sl (Kd.int IntKind.u8))))).fst) else false) = true → ((bif decide (y.snd.fst = (0 : Int)) then decide (y.fst = (List.getD z.snd.fst (1 : Nat) (Kd.dft (Kd.pair
  (Kd.int IntKind.i64) (Kd.sl (Kd.int IntKind.u8))))).fst) else false) == true) = true ∧ True ∧ (∀ (y : Bool × Unit), Kd.wf Kd.bool y.fst ∧ True → y.fst = mayA (z.snd.snd.snd.fst.fst,
  z.snd.snd.snd.fst.snd.fst) → (attrQ x.fst (z.snd.snd.snd.fst.fst, z.snd.snd.snd.fst.snd.fst) y.fst = true ∧ True) ∧ (attrQ x.fst (z.snd.snd.snd.fst.fst, z.snd.snd.snd.fst.snd.fst) y.fst =
  true ∧ True) ∧ True) ∧ True) ∧ ((bif decide (y.snd.fst = (0 : Int)) then decide (y.fst = (List.getD z.snd.fst (1 : Nat) (Kd.dft (Kd.pair (Kd.int IntKind.i64) (Kd.sl (Kd.int
  IntKind.u8))))).fst) else false) = !true → (attrQ x.fst (z.snd.snd.snd.fst.fst, z.snd.snd.snd.fst.snd.fst) false = true ∧ True) ∧ (attrQ x.fst (z.snd.snd.snd.fst.fst,
  z.snd.snd.snd.fst.snd.fst) false = true ∧ True) ∧ True)) ∧ True) ∧ (((bif decide (y.snd.fst = (0 : Int)) then decide (y.fst = (List.getD z.snd.fst (1 : Nat) (Kd.dft (Kd.pair (Kd.int
  IntKind.i64) (Kd.sl (Kd.int IntKind.u8))))).fst) else false) = true → ((bif decide (y.snd.fst = (0 : Int)) then decide (y.fst = (List.getD z.snd.fst (1 : Nat) (Kd.dft (Kd.pair (Kd.int
  IntKind.i64) (Kd.sl (Kd.int IntKind.u8))))).fst) else false) == true) = true ∧ True ∧ (∀ (y : Bool × Unit), Kd.wf Kd.bool y.fst ∧ True → y.fst = mayA (z.snd.snd.snd.fst.fst,
  z.snd.snd.snd.fst.snd.fst) → ((attrQ x.fst (z.snd.snd.snd.fst.fst, z.snd.snd.snd.fst.snd.fst) y.fst = true ∧ True) ∧ (attrQ x.fst (z.snd.snd.snd.fst.fst, z.snd.snd.snd.fst.snd.fst) y.fst =
  true ∧ True) ∧ True) ∧ ((attrQ x.fst (z.snd.snd.snd.fst.fst, z.snd.snd.snd.fst.snd.fst) y.fst = true ∧ True) ∧ True) ∧ True) ∧ True) ∧ ((bif decide (y.snd.fst = (0 : Int)) then decide
  (y.fst = (List.getD z.snd.fst (1 : Nat) (Kd.dft (Kd.pair (Kd.int IntKind.i64) (Kd.sl (Kd.int IntKind.u8))))).fst) else false) = !true → ((attrQ x.fst (z.snd.snd.snd.fst.fst,
  z.snd.snd.snd.fst.snd.fst) false = true ∧ True) ∧ (attrQ x.fst (z.snd.snd.snd.fst.fst, z.snd.snd.snd.fst.snd.fst) false = true ∧ True) ∧ True) ∧ ((attrQ x.fst (z.snd.snd.snd.fst.fst,
  z.snd.snd.snd.fst.snd.fst) false = true ∧ True) ∧ True) ∧ True)) ∧ True) ∧ True) ∧ True) ∧ True) ∧ True) ∧ True) ∧ True)) ∧ True) ∧ True
theorem e44 : t44 = Con.vc c_name_attr GL (mkEnvO ty [(65, conSem c_name_only), (43, conSem c_der_All), (66, conSem c_oid_Decode), (67, conSem c_oid_Begins), (47, conSem c_text_Kind), (39, conSem c_name_may)] [] [] [0, 2, 3, 4, 5, 6, 8, 9, 10, 11, 40, 62] [1000000]) {joins := [8,9], news := [(9,10,56)]} Tryd.f44.ntmps Tryd.f44.results.toList (bodyOf Tryd.f44) := by kernel_rfl
theorem k44 : t44 := by
  unfold t44
  rintro ⟨b, _⟩ hx hp
  have hp : b.length ≤ 100000000 := hp
  have hb : Bys b := sl_bys hx.1
  try dsimp +instances only [dft_int, dft_sl, dft_str]
  simp only [true_and, and_true, eq_self_iff_true, implies_true, reduceCtorEq, false_implies, true_implies, decide_eq_true_eq, decide_eq_false_iff_not, beq_self_eq_true, Bool.not_eq_true', ne_eq, Decidable.not_not, List.nil_append, List.length_singleton, List.length_cons, List.length_nil, Nat.zero_add, Nat.add_zero, Nat.mul_one, and_self, beq_iff_eq, Bool.not_true, Bool.not_false, Bool.not_eq_false', Bool.cond_false_right, Bool.and_eq_true, imp_self, Bool.not_eq_true, Bool.cond_true_left, Bool.or_eq_true]
  simp only [edft_eq]
  rw [bs_nil]
  have hol := oneD_len b
  refine ⟨by decide, hp, ?_⟩
  rintro ⟨c, ok, _⟩ _ ⟨ec, eok⟩
  simp only at ec eok ⊢
  subst ec
  refine ⟨by rw [lenB]; omega, ?_⟩
  rintro ⟨l, n, e, _⟩ _ el
  simp only at el ⊢
  have hread : ∀ m, mayA m = true → attrB m = b → ok = true ∧ l = [(6, [85, 4, m.1]), elK m] ∧ e = 0 ∧ DecD [85, 4, m.1] = ([2, 5, 4, m.1], 0) := fun m hm he => by
    obtain ⟨r1, r2, r3⟩ := attr_read hm he
    rw [r2] at el
    simp only [Prod.mk.injEq] at el
    refine ⟨?_, el.1, el.2.2, r3⟩
    rw [eok, r1]
    rfl
  refine ⟨fun h => ⟨h, by decide, ?_⟩, fun h => attrQ_bad fun m hm he => ?_, fun h => ?_⟩
  · simp only [Bool.or_eq_false_iff, decide_eq_false_iff_not, Decidable.not_not] at h
    omega
  · obtain ⟨r1, r2, r3, _⟩ := hread m hm he
    subst r2
    rcases h with ((h | h) | h) | h
    · rw [r1] at h; cases h
    · exact h r3
    · exact h rfl
    · exact h rfl
  have hh := h
  rw [Bool.or_eq_false_iff, Bool.or_eq_false_iff, Bool.or_eq_false_iff, Bool.not_eq_false'] at hh
  obtain ⟨⟨⟨k1, k2⟩, k3⟩, k4⟩ := hh
  have k2 := dec_not k2
  have k3 := dec_not k3
  have k4 := dec_not k4
  have hll := two_list (l := l) (by omega)
  refine ⟨⟨by decide, by omega⟩, ?_⟩
  rintro ⟨arcs, e2, _⟩ _ ed
  simp only at ed ⊢
  have hread2 : ∀ m, mayA m = true → attrB m = b → l.getD 1 edft = elK m ∧ arcs = [2, 5, 4, m.1] ∧ e2 = 0 := fun m hm he => by
    obtain ⟨_, r2, _, r4⟩ := hread m hm he
    rw [r2] at ed ⊢
    have := ed.trans r4
    exact ⟨rfl, (Prod.mk.inj this).1, (Prod.mk.inj this).2⟩
  refine ⟨fun _ z => l = z.2.1 ∧ arcs = z.2.2.1 ∧ arcs.length = 4 ∧ arcs.take 3 = [2, 5, 4] ∧ e2 = 0, ⟨fun h => ⟨h, ?_⟩, fun h => attrQ_bad fun m hm he => ?_⟩, ?_⟩
  · rw [Bool.or_eq_false_iff] at h
    have g1 := dec_not h.1
    have g2 := dec_not h.2
    rintro ⟨q, _⟩ _ eq
    simp only at eq ⊢
    subst eq
    refine ⟨fun h => attrQ_bad fun m hm he => ?_, fun h => ⟨by trivial, by trivial, by omega, of_decide_eq_true h, g1⟩⟩
    obtain ⟨_, r3, _⟩ := hread2 m hm he
    rw [r3] at h
    exact absurd h (by simp)
  · obtain ⟨_, r3, r4⟩ := hread2 m hm he
    rcases h with h | h
    · exact h r4
    · rw [r3] at h; exact h rfl
  rintro ⟨u, _⟩ ⟨⟨z1, z2, _⟩, l', arcs', _⟩ _ _ ⟨j1, j2, j3, j4, j5⟩
  simp only at j1 j2 ⊢
  subst j1
  subst j2
  have harc := four_list (l := arcs) j3 j4
  refine ⟨fun _ z => l = z.2.1 ∧ arcs.getD 3 0 = z.2.2.2.1.1 ∧ (l.getD 1 edft).2 = z.2.2.2.1.2.1, ⟨⟨by decide, by omega⟩, ⟨by decide, by omega⟩, by decide, by trivial, by trivial, by trivial⟩, ?_⟩
  rintro _ ⟨⟨z3, z4, _⟩, l2, arcs2, ⟨k, v, _⟩, _⟩ _ ⟨q1, q2, q3⟩
  simp only at q1 q2 q3 ⊢
  subst q1
  subst q2
  subst q3
  rintro ⟨kd, ke, _⟩ _ ⟨hk1, hk2⟩
  simp only at hk1 hk2 ⊢
  refine ⟨fun h => ⟨h, by decide, by omega⟩, fun h => ⟨h, ?_⟩, fun h => attrQ_bad fun m hm he => ?_⟩
  · rintro ⟨q, _⟩ _ eq
    simp only at eq ⊢
    subst eq
    cases hq : mayA (arcs.getD 3 0, (l.getD 1 edft).2) with
    | true =>
      refine attrQ_iff.2 ⟨fun _ => ⟨hq, ?_⟩, fun h => by cases h⟩
      have ek : ok = true := k1
      rw [eok, Bool.and_eq_true, decide_eq_true_eq, decide_eq_true_eq] at ek
      refine read_attr (l := l) (arcs := arcs) hb ek.1 ek.2 (x := l.getD 0 edft) (y := l.getD 1 edft) (n := n) (by rw [← el, k2]; exact Prod.ext hll rfl) k4 ?_ rfl (by rw [← h.2, ← hk1]) hq
      simp only
      rw [← harc, ← ed, j5]
    | false =>
      refine attrQ_bad fun m hm he => ?_
      obtain ⟨r2, r3, _⟩ := hread2 m hm he
      rw [r2, r3] at hq
      have hq : mayA m = false := hq
      rw [hm] at hq
      cases hq
  · obtain ⟨r2, _, _⟩ := hread2 m hm he
    have hkm := (may_kind hm).1
    rw [r2] at hk1 hk2
    have hk2 : ke = (kindD m.2).2 := hk2
    have hk1 : kd = (kindD m.2).1 := hk1
    rw [Bool.and_eq_false_iff] at h
    rcases h with h | h
    · exact of_decide_eq_false h (hk2.trans hkm)
    · exact of_decide_eq_false h (by rw [r2]; exact hk1)
theorem h44 : c_name_attr.ok Tryd.prog GL 44 := conO_ok (H := {joins := [8,9], news := [(9,10,56)]}) (mkEnvO_ok (gl := GL) (l := [(65, conSem c_name_only), (43, conSem c_der_All), (66, conSem c_oid_Decode), (67, conSem c_oid_Begins), (47, conSem c_text_Kind), (39, conSem c_name_may)]) (q := []) (d := []) _ [1000000] tyOk (by kernel_rfl) ⟨h65.call, h43.call, h66.call, h67.call, h47.call, h39.call, trivial⟩ trivial trivial) (by kernel_rfl) (by kernel_rfl) (Eq.mp e44 k44)

def t23 : Prop :=
  ∀ (x : List Int × Unit), Kd.wf (Kd.sl (Kd.int IntKind.u8)) x.fst ∧ True → lenB x.fst ≤ (100000000 : Nat) → lenB x.fst ≤ (1000000000 : Nat) ∧ (∀ (y : (Int × List Int) × Int × Unit), Kd.wf
  (Kd.pair (Kd.int IntKind.i64) (Kd.sl (Kd.int IntKind.u8))) y.fst ∧ Kd.wf (Kd.int IntKind.i64) y.snd.fst ∧ True → (y.fst, y.snd.fst) = oneD x.fst → (2 : Nat) ≤ (65536 : Nat) ∧ (decide
  (y.snd.fst ≠ (0 : Int)) = true → decQ x.fst [] y.snd.fst = true) ∧ (decide (y.snd.fst ≠ (0 : Int)) = false → lenB y.fst.snd ≤ (1000000000 : Nat) ∧ (∀ (y_1 : List (Int × List Int) × Int ×
  Int × Unit), Kd.wf (Kd.sl (Kd.pair (Kd.int IntKind.i64) (Kd.sl (Kd.int IntKind.u8)))) y_1.fst ∧ Kd.wf (Kd.int IntKind.i64) y_1.snd.fst ∧ Kd.wf (Kd.int IntKind.i64) y_1.snd.snd.fst ∧ True →
  (y_1.fst, y_1.snd.fst, y_1.snd.snd.fst) = allD y.fst.snd → (decide (y_1.snd.snd.fst ≠ (0 : Int)) = false → True) ∧ (decide (y_1.snd.snd.fst ≠ (0 : Int)) = false → (decide (y_1.snd.snd.fst ≠
  (0 : Int)) == false) = true ∧ True) ∧ (decide (y_1.snd.snd.fst ≠ (0 : Int)) = false → (decide (y_1.snd.snd.fst ≠ (0 : Int)) == false) = true ∧ True) ∧ (decide (y_1.snd.snd.fst ≠ (0 : Int))
  = false → (decide (y_1.snd.snd.fst ≠ (0 : Int)) == false) = true) ∧ ((bif decide (y_1.snd.snd.fst ≠ (0 : Int)) then true else decide (y.fst.fst ≠ (48 : Int))) = false → True) ∧ ((bif decide
  (y_1.snd.snd.fst ≠ (0 : Int)) then true else decide (y.fst.fst ≠ (48 : Int))) = false → ((bif decide (y_1.snd.snd.fst ≠ (0 : Int)) then true else decide (y.fst.fst ≠ (48 : Int))) == false)
  = true ∧ True) ∧ ((bif decide (y_1.snd.snd.fst ≠ (0 : Int)) then true else decide (y.fst.fst ≠ (48 : Int))) = false → ((bif decide (y_1.snd.snd.fst ≠ (0 : Int)) then true else decide
  (y.fst.fst ≠ (48 : Int))) == false) = true ∧ True) ∧ ((bif decide (y_1.snd.snd.fst ≠ (0 : Int)) then true else decide (y.fst.fst ≠ (48 : Int))) = false → ((bif decide (y_1.snd.snd.fst ≠ (0
  : Int)) then true else decide (y.fst.fst ≠ (48 : Int))) == false) = true) ∧ ((bif bif decide (y_1.snd.snd.fst ≠ (0 : Int)) then true else decide (y.fst.fst ≠ (48 : Int)) then true else
  decide ((16 : Int) < (↑(List.length y_1.fst) : Int))) = true → decQ x.fst [] (120 : Int) = true) ∧ ((bif bif decide (y_1.snd.snd.fst ≠ (0 : Int)) then true else decide (y.fst.fst ≠ (48 :
  Int)) then true else decide ((16 : Int) < (↑(List.length y_1.fst) : Int))) = false → ∃ (I : Int × Int × Unit → (Int × List Int × Unit) × List (Int × List Int) × List (Int × List Int) × List
  (Int × List Int) × Unit → Prop), ∃ (μ : Int × Int × Unit → (Int × List Int × Unit) × List (Int × List Int) × List (Int × List Int) × List (Int × List Int) × Unit → Nat), ((↑(List.length
  y_1.fst) : Int) = (↑(List.length y_1.fst) : Int) ∧ Value.bool false = Value.bool false ∧ y_1.snd.snd.fst = y_1.snd.snd.fst ∧ Value.bool false = Value.bool false ∧ y.snd.fst = y.snd.fst ∧
  x.fst = x.fst ∧ I ((0 : Int), (0 : Int), ()) ((y.fst.fst, y.fst.snd, ()), y_1.fst, [], [], ())) ∧ ∀ (y_2 : Int × Int × Unit) (z : (Int × List Int × Unit) × List (Int × List Int) × List (Int
  × List Int) × List (Int × List Int) × Unit), Kd.wf (Kd.int IntKind.i64) y_2.fst ∧ Kd.wf (Kd.int IntKind.i64) y_2.snd.fst ∧ True → (Kd.wf (Kd.int IntKind.i64) z.fst.fst ∧ Kd.wf (Kd.sl
  (Kd.int IntKind.u8)) z.fst.snd.fst ∧ True) ∧ Kd.wf (Kd.sl (Kd.pair (Kd.int IntKind.i64) (Kd.sl (Kd.int IntKind.u8)))) z.snd.fst ∧ Kd.wf (Kd.sl (Kd.pair (Kd.int IntKind.i64) Kd.str))
  z.snd.snd.fst ∧ Kd.wf (Kd.sl (Kd.pair (Kd.int IntKind.i64) Kd.str)) z.snd.snd.snd.fst ∧ True → I y_2 z → (decide (y_2.fst < (↑(List.length y_1.fst) : Int)) = true → ((0 : Int) ≤ y_2.fst ∧
  y_2.fst < (↑(List.length z.snd.fst) : Int)) ∧ (2 : Nat) ≤ (65536 : Nat) ∧ lenB (List.getD z.snd.fst (Int.toNat y_2.fst) (Kd.dft (Kd.pair (Kd.int IntKind.i64) (Kd.sl (Kd.int
  IntKind.u8))))).snd ≤ (100000000 : Nat) ∧ (∀ (y_3 : (Int × List Int) × Bool × Unit), Kd.wf (Kd.pair (Kd.int IntKind.i64) Kd.str) y_3.fst ∧ Kd.wf Kd.bool y_3.snd.fst ∧ True → attrQ
  (List.getD z.snd.fst (Int.toNat y_2.fst) (Kd.dft (Kd.pair (Kd.int IntKind.i64) (Kd.sl (Kd.int IntKind.u8))))).snd y_3.fst y_3.snd.fst = true → (2 : Nat) ≤ (65536 : Nat) ∧ ((!y_3.snd.fst) =
  false → True) ∧ ((!y_3.snd.fst) = false → ((!y_3.snd.fst) == false) = true ∧ True) ∧ ((!y_3.snd.fst) = false → ((!y_3.snd.fst) == false) = true ∧ True) ∧ ((!y_3.snd.fst) = false →
  ((!y_3.snd.fst) == false) = true) ∧ ((bif !y_3.snd.fst then true else decide ((List.getD z.snd.fst (Int.toNat y_2.fst) (Kd.dft (Kd.pair (Kd.int IntKind.i64) (Kd.sl (Kd.int
  IntKind.u8))))).fst ≠ (49 : Int))) = true → decQ x.fst [] (120 : Int) = true) ∧ ((bif !y_3.snd.fst then true else decide ((List.getD z.snd.fst (Int.toNat y_2.fst) (Kd.dft (Kd.pair (Kd.int
  IntKind.i64) (Kd.sl (Kd.int IntKind.u8))))).fst ≠ (49 : Int))) = false → (0 : Nat) < (2 : Nat) ∧ (List.length z.snd.snd.fst + List.length [(y_3.fst.fst, y_3.fst.snd)]) * (24 : Nat) ≤
  (140737488355328 : Nat) ∧ List.length z.snd.snd.fst + List.length [(y_3.fst.fst, y_3.fst.snd)] ≤ (9223372036854775807 : Nat) ∧ (↑(List.length y_1.fst) : Int) = (↑(List.length y_1.fst) :
  Int) ∧ Value.bool false = Value.bool false ∧ y_1.snd.snd.fst = y_1.snd.snd.fst ∧ Value.bool false = Value.bool false ∧ y.snd.fst = y.snd.fst ∧ x.fst = x.fst ∧ I (IntKind.wrap IntKind.i64
  (y_2.fst + (1 : Int)), y_2.snd.fst, ()) ((z.fst.fst, z.fst.snd.fst, ()), z.snd.fst, z.snd.snd.fst ++ [(y_3.fst.fst, y_3.fst.snd)], z.snd.snd.snd.fst, ()) ∧ μ (IntKind.wrap IntKind.i64
  (y_2.fst + (1 : Int)), y_2.snd.fst, ()) ((z.fst.fst, z.fst.snd.fst, ()), z.snd.fst, z.snd.snd.fst ++ [(y_3.fst.fst, y_3.fst.snd)], z.snd.snd.snd.fst, ()) < μ y_2 z)) ∧ True) ∧ (decide
  (y_2.fst < (↑(List.length y_1.fst) : Int)) = false → decQ x.fst z.snd.snd.fst (0 : Int) = true))) ∧ True)) ∧ True
theorem e23 : t23 = Con.vc c_name_Decode GL (mkEnv ty [(42, conSem c_der_One), (43, conSem c_der_All), (44, conSem c_name_attr)] [] [] [0, 2, 3, 4, 5, 6, 8, 9, 11, 12, 13, 20, 40, 41, 42, 43, 44, 59]) {} Tryd.f23.ntmps Tryd.f23.results.toList (bodyOf Tryd.f23) := by kernel_rfl
theorem k23 : t23 := by
  unfold t23
  rintro ⟨b, _⟩ hx hp
  have hp : b.length ≤ 100000000 := hp
  have hb : Bys b := sl_bys hx.1
  try dsimp +instances only [dft_int, dft_sl, dft_str]
  simp only [true_and, and_true, eq_self_iff_true, implies_true, reduceCtorEq, false_implies, true_implies, decide_eq_true_eq, decide_eq_false_iff_not, beq_self_eq_true, Bool.not_eq_true', ne_eq, Decidable.not_not, List.nil_append, List.length_singleton, List.length_cons, List.length_nil, Nat.zero_add, Nat.add_zero, Nat.mul_one, and_self, beq_iff_eq, Bool.not_true, Bool.not_false, Bool.not_eq_false', Bool.cond_false_right, Bool.and_eq_true, imp_self, Bool.not_eq_true, Bool.cond_true_left, Bool.or_eq_true]
  simp only [edft_eq]
  have hol := oneD_len b
  refine ⟨by rw [lenB]; omega, ?_⟩
  rintro ⟨⟨t, c⟩, e, _⟩ _ e1
  simp only at e1 ⊢
  have o1 : (oneD b).1.1 = t := by rw [← e1]
  have o2 : (oneD b).1.2 = c := by rw [← e1]
  have o3 : (oneD b).2 = e := by rw [← e1]
  rw [o2] at hol
  refine ⟨by decide, fun h => decQ_iff.2 (.inl ⟨by rw [o3]; exact h, o3.symm, rfl⟩), fun h => ⟨by rw [lenB]; omega, ?_⟩⟩
  subst h
  rintro ⟨l, n, e2, _⟩ _ el
  simp only at el ⊢
  have hread : ∀ m, mayN m = true → encN m = b → t = 48 ∧ l = m.map (fun a => ((49 : Int), attrB a)) ∧ e2 = 0 := fun m hm he => by
    obtain ⟨r1, r2⟩ := dec_read hm he
    rw [o2, ← el] at r2
    simp only [Prod.mk.injEq] at r2
    exact ⟨by rw [← o1, r1], r2.1, r2.2.2⟩
  refine ⟨fun h => decQ_bad o3 fun m hm he => ?_, fun h => ?_⟩
  · obtain ⟨r1, r2, r3⟩ := hread m hm he
    have := (mayN_args hm).1
    have hl := congrArg List.length r2
    rw [List.length_map] at hl
    rcases h with (h | h) | h
    · exact h r3
    · exact h r1
    · omega
  simp only [Bool.or_eq_false_iff, decide_eq_false_iff_not, Decidable.not_not] at h
  obtain ⟨⟨k1, k2⟩, k3⟩ := h
  subst k1 k2
  have hel : ∀ x ∈ l, x.2.length ≤ 100000000 := fun x hx => by
    have := (allD_len c).2 x (by rw [← el]; exact hx)
    omega
  refine ⟨fun y z => z.2.1 = l ∧ 0 ≤ y.1 ∧ y.1 ≤ l.length ∧ (∀ a ∈ (z.2.2.1 : List AttrT), mayA a = true) ∧ l.take y.1.toNat = (z.2.2.1 : List AttrT).map (fun a => ((49 : Int), attrB a)), fun y _ => ((l.length : Int) - y.1).toNat, ⟨rfl, Int.le_refl 0, by simp only; omega, (fun a ha => by cases ha), rfl⟩, ?_⟩
  rintro ⟨i, q, _⟩ ⟨⟨t2, c2, _⟩, l2, acc, v, _⟩ _ _ ⟨z1, i0, i1, hA, hz⟩
  simp only at z1 i0 i1 hA hz ⊢
  subst z1
  have hal := congrArg List.length hz
  rw [List.length_take, List.length_map] at hal
  refine ⟨fun hlt => ?_, fun hge => ?_⟩
  · have hst := take_snocA edft l2 i.toNat (by omega)
    have hmem := mem_getD edft l2 i.toNat (by omega)
    have hgi : ∀ m, mayN m = true → encN m = b → ∃ a, mayA a = true ∧ l2.getD i.toNat edft = (49, attrB a) := fun m hm he => by
      obtain ⟨_, r2, _⟩ := hread m hm he
      rw [r2] at hmem
      obtain ⟨a, ha, e⟩ := List.mem_map.1 hmem
      exact ⟨a, (mayN_args hm).2 a ha, by rw [r2]; exact e.symm⟩
    refine ⟨⟨i0, hlt⟩, by decide, by rw [lenB]; exact hel _ hmem, ?_⟩
    rintro ⟨⟨k, v2⟩, ok, _⟩ _ hq
    simp only at hq ⊢
    have hq2 := attrQ_iff.1 hq
    refine ⟨by decide, fun h => decQ_bad o3 fun m hm he => ?_, fun h => ?_⟩
    · obtain ⟨a, ha, ex⟩ := hgi m hm he
      rcases h with h | h
      · exact hq2.2 h a ha (by rw [ex])
      · exact h (by rw [ex])
    · rw [Bool.or_eq_false_iff, Bool.not_eq_false'] at h
      obtain ⟨g1, g2⟩ := hq2.1 h.1
      have h2 := dec_not h.2
      rw [wrapK (i + 1) (by omega) (by omega)]
      refine ⟨by decide, by omega, by omega, ⟨by trivial, by omega, by omega, fun a ha => ?_, ?_⟩, by omega⟩
      · rcases List.mem_append.1 ha with ha | ha
        · exact hA a ha
        · rw [List.mem_singleton.1 ha]; exact g1
      · rw [show (i + 1).toNat = i.toNat + 1 by omega, hst, hz, List.map_append, List.map_singleton, g2, ← h2]
  · rw [List.take_of_length_le (by omega)] at hz
    refine decQ_iff.2 (.inr ⟨o3, .inl ⟨rfl, mayN_of (by omega) hA, enc_sets hb o3 o1 (n := n) ?_⟩⟩)
    rw [o2, ← el, hz]
theorem h23 : c_name_Decode.ok Tryd.prog GL 23 := con_ok (H := {}) (mkEnv_ok (gl := GL) (l := [(42, conSem c_der_One), (43, conSem c_der_All), (44, conSem c_name_attr)]) (q := []) (d := []) _ tyOk (by kernel_rfl) ⟨h42.call, h43.call, h44.call, trivial⟩ trivial trivial) (by kernel_rfl) (by kernel_rfl) (Eq.mp e23 k23)

end Go.Proofs.YtcaekpbmmbfeiaaDoor
end
section
/- Contracts. -/
namespace Go.Proofs.YtcaekpbmmbfeiaaDoor
open Go Go.Vc Go.Pl Go.Proofs

end Go.Proofs.YtcaekpbmmbfeiaaDoor
end
section
/- Walks. -/
namespace Go.Proofs.YtcaekpbmmbfeiaaDoor
open Go Go.Vc Go.Pl Go.Proofs
set_option linter.unusedVariables false
set_option linter.unusedSimpArgs false
def t18 : Prop :=
  ∀ (x : List Int × Unit), Kd.wf Kd.str x.fst ∧ True → List.length x.fst ≤ (10000000 : Nat) → (1 : Nat) ≤ (65536 : Nat) ∧ (1 : Nat) ≤ (65536 : Nat) ∧ (1 : Nat) ≤ (65536 : Nat) ∧ (decide
  (x.fst = bs { data := #[] }) = true → parN x.fst [] (0 : Int) = true) ∧ (decide (x.fst = bs { data := #[] }) = false → List.length [SV.dat Kd.str x.fst] ≤ (65536 : Nat) ∧ ∃ (I : Int × Int ×
  Unit → Unit × (Int × Unit) × Unit × (List Int × Unit) × List (Int × List Int) × List (Int × List Int) × Unit → Prop), ∃ (μ : Int × Int × Unit → Unit × (Int × Unit) × Unit × (List Int ×
  Unit) × List (Int × List Int) × List (Int × List Int) × Unit → Nat), (Value.bool false = Value.bool false ∧ x.fst = x.fst ∧ I ((0 : Int), (0 : Int), ()) ((), ((0 : Int), ()), (), (x.fst,
  ()), [], [], ())) ∧ ∀ (y : Int × Int × Unit) (z : Unit × (Int × Unit) × Unit × (List Int × Unit) × List (Int × List Int) × List (Int × List Int) × Unit), Kd.wf (Kd.int IntKind.i64) y.fst ∧
  Kd.wf (Kd.int IntKind.i64) y.snd.fst ∧ True → True ∧ (Kd.wf (Kd.int IntKind.i64) z.snd.fst.fst ∧ True) ∧ True ∧ (Kd.wf Kd.str z.snd.snd.snd.fst.fst ∧ True) ∧ Kd.wf (Kd.sl (Kd.pair (Kd.int
  IntKind.i64) Kd.str)) z.snd.snd.snd.snd.fst ∧ Kd.wf (Kd.sl (Kd.pair (Kd.int IntKind.i64) Kd.str)) z.snd.snd.snd.snd.snd.fst ∧ True → I y z → (decide (y.fst < (↑(List.length
  z.snd.snd.snd.fst.fst) : Int)) = true → ((0 : Int) ≤ y.fst ∧ y.fst < (↑(List.length z.snd.snd.snd.fst.fst) : Int)) ∧ (decide (List.getD z.snd.snd.snd.fst.fst (Int.toNat y.fst) (0 : Int) =
  (92 : Int)) = true → Value.bool false = Value.bool false ∧ x.fst = x.fst ∧ I (IntKind.wrap IntKind.i64 (IntKind.wrap IntKind.i64 (y.fst + (1 : Int)) + (1 : Int)), y.snd.fst, ()) ((),
  (z.snd.fst.fst, ()), (), (z.snd.snd.snd.fst.fst, ()), z.snd.snd.snd.snd.fst, z.snd.snd.snd.snd.snd.fst, ()) ∧ μ (IntKind.wrap IntKind.i64 (IntKind.wrap IntKind.i64 (y.fst + (1 : Int)) + (1
  : Int)), y.snd.fst, ()) ((), (z.snd.fst.fst, ()), (), (z.snd.snd.snd.fst.fst, ()), z.snd.snd.snd.snd.fst, z.snd.snd.snd.snd.snd.fst, ()) < μ y z) ∧ (decide (List.getD z.snd.snd.snd.fst.fst
  (Int.toNat y.fst) (0 : Int) = (92 : Int)) = false → (decide (List.getD z.snd.snd.snd.fst.fst (Int.toNat y.fst) (0 : Int) = (44 : Int)) = true → ((0 : Int) ≤ y.snd.fst ∧ y.snd.fst ≤ y.fst ∧
  y.fst ≤ (↑(List.length z.snd.snd.snd.fst.fst) : Int)) ∧ (List.length (List.drop (Int.toNat y.snd.fst) (List.take (Int.toNat y.fst) z.snd.snd.snd.fst.fst)) < (4294967281 : Nat) ∧ List.length
  (bs { data := #[(61 : UInt8)] }) = (1 : Nat)) ∧ (∀ (y_1 : List Int × List Int × Bool × Unit), Kd.wf Kd.str y_1.fst ∧ Kd.wf Kd.str y_1.snd.fst ∧ Kd.wf Kd.bool y_1.snd.snd.fst ∧ True →
  y_1.fst = (cutD (List.getD (bs { data := #[(61 : UInt8)] }) (0 : Nat) (0 : Int)) (List.drop (Int.toNat y.snd.fst) (List.take (Int.toNat y.fst) z.snd.snd.snd.fst.fst))).fst ∧ y_1.snd.fst =
  (cutD (List.getD (bs { data := #[(61 : UInt8)] }) (0 : Nat) (0 : Int)) (List.drop (Int.toNat y.snd.fst) (List.take (Int.toNat y.fst) z.snd.snd.snd.fst.fst))).snd.fst ∧ y_1.snd.snd.fst =
  (cutD (List.getD (bs { data := #[(61 : UInt8)] }) (0 : Nat) (0 : Int)) (List.drop (Int.toNat y.snd.fst) (List.take (Int.toNat y.fst) z.snd.snd.snd.fst.fst))).snd.snd → List.length
  y_1.snd.fst ≤ (1000000000 : Nat) ∧ (∀ (y_2 : List Int × Bool × Unit), Kd.wf Kd.str y_2.fst ∧ Kd.wf Kd.bool y_2.snd.fst ∧ True → (y_2.fst, y_2.snd.fst) = PlainD y_1.snd.fst → True ∧ (∀ (y_3
  : Int × Unit), Kd.wf (Kd.int IntKind.i64) y_3.fst ∧ True → y_3.fst = typK y_1.fst → (2 : Nat) ≤ (65536 : Nat) ∧ ((!y_1.snd.snd.fst) = false → True) ∧ ((!y_1.snd.snd.fst) = false →
  ((!y_1.snd.snd.fst) == false) = true ∧ True) ∧ ((!y_1.snd.snd.fst) = false → ((!y_1.snd.snd.fst) == false) = true) ∧ ((bif !y_1.snd.snd.fst then true else !y_2.snd.fst) = false → True) ∧
  ((bif !y_1.snd.snd.fst then true else !y_2.snd.fst) = false → ((bif !y_1.snd.snd.fst then true else !y_2.snd.fst) == false) = true ∧ True ∧ (∀ (y_4 : Bool × Unit), Kd.wf Kd.bool y_4.fst ∧
  True → y_4.fst = mayA (y_3.fst, y_2.fst) → ((!y_4.fst) = false → True) ∧ ((!y_4.fst) = false → ((!y_4.fst) == false) = true ∧ True) ∧ ((!y_4.fst) = false → ((!y_4.fst) == false) = true ∧
  True) ∧ ((!y_4.fst) = false → ((!y_4.fst) == false) = true) ∧ ((bif !y_4.fst then true else decide ((↑(List.length z.snd.snd.snd.snd.snd.fst) : Int) = (16 : Int))) = true → parN x.fst []
  (120 : Int) = true) ∧ ((bif !y_4.fst then true else decide ((↑(List.length z.snd.snd.snd.snd.snd.fst) : Int) = (16 : Int))) = false → (0 : Nat) < (2 : Nat) ∧ (List.length
  z.snd.snd.snd.snd.snd.fst + List.length [(y_3.fst, y_2.fst)]) * (24 : Nat) ≤ (140737488355328 : Nat) ∧ List.length z.snd.snd.snd.snd.snd.fst + List.length [(y_3.fst, y_2.fst)] ≤
  (9223372036854775807 : Nat) ∧ Value.bool false = Value.bool false ∧ x.fst = x.fst ∧ I (IntKind.wrap IntKind.i64 (y.fst + (1 : Int)), IntKind.wrap IntKind.i64 (y.fst + (1 : Int)), ()) ((),
  (z.snd.fst.fst, ()), (), (z.snd.snd.snd.fst.fst, ()), z.snd.snd.snd.snd.fst, z.snd.snd.snd.snd.snd.fst ++ [(y_3.fst, y_2.fst)], ()) ∧ μ (IntKind.wrap IntKind.i64 (y.fst + (1 : Int)),
  IntKind.wrap IntKind.i64 (y.fst + (1 : Int)), ()) ((), (z.snd.fst.fst, ()), (), (z.snd.snd.snd.fst.fst, ()), z.snd.snd.snd.snd.fst, z.snd.snd.snd.snd.snd.fst ++ [(y_3.fst, y_2.fst)], ()) <
  μ y z)) ∧ True) ∧ ((bif !y_1.snd.snd.fst then true else !y_2.snd.fst) = !false → parN x.fst [] (120 : Int) = true)) ∧ True) ∧ True) ∧ True) ∧ (decide (List.getD z.snd.snd.snd.fst.fst
  (Int.toNat y.fst) (0 : Int) = (44 : Int)) = false → Value.bool false = Value.bool false ∧ x.fst = x.fst ∧ I (IntKind.wrap IntKind.i64 (y.fst + (1 : Int)), y.snd.fst, ()) ((),
  (z.snd.fst.fst, ()), (), (z.snd.snd.snd.fst.fst, ()), z.snd.snd.snd.snd.fst, z.snd.snd.snd.snd.snd.fst, ()) ∧ μ (IntKind.wrap IntKind.i64 (y.fst + (1 : Int)), y.snd.fst, ()) ((),
  (z.snd.fst.fst, ()), (), (z.snd.snd.snd.fst.fst, ()), z.snd.snd.snd.snd.fst, z.snd.snd.snd.snd.snd.fst, ()) < μ y z))) ∧ (decide (y.fst < (↑(List.length z.snd.snd.snd.fst.fst) : Int)) =
  false → ((0 : Int) ≤ y.snd.fst ∧ y.snd.fst ≤ (↑(List.length z.snd.snd.snd.fst.fst) : Int)) ∧ (List.length (List.drop (Int.toNat y.snd.fst) z.snd.snd.snd.fst.fst) < (4294967281 : Nat) ∧
  List.length (bs { data := #[(61 : UInt8)] }) = (1 : Nat)) ∧ (∀ (y_1 : List Int × List Int × Bool × Unit), Kd.wf Kd.str y_1.fst ∧ Kd.wf Kd.str y_1.snd.fst ∧ Kd.wf Kd.bool y_1.snd.snd.fst ∧
  True → y_1.fst = (cutD (List.getD (bs { data := #[(61 : UInt8)] }) (0 : Nat) (0 : Int)) (List.drop (Int.toNat y.snd.fst) z.snd.snd.snd.fst.fst)).fst ∧ y_1.snd.fst = (cutD (List.getD (bs {
  data := #[(61 : UInt8)] }) (0 : Nat) (0 : Int)) (List.drop (Int.toNat y.snd.fst) z.snd.snd.snd.fst.fst)).snd.fst ∧ y_1.snd.snd.fst = (cutD (List.getD (bs { data := #[(61 : UInt8)] }) (0 :
  Nat) (0 : Int)) (List.drop (Int.toNat y.snd.fst) z.snd.snd.snd.fst.fst)).snd.snd → List.length y_1.snd.fst ≤ (1000000000 : Nat) ∧ (∀ (y : List Int × Bool × Unit), Kd.wf Kd.str y.fst ∧ Kd.wf
  Kd.bool y.snd.fst ∧ True → (y.fst, y.snd.fst) = PlainD y_1.snd.fst → True ∧ (∀ (y_2 : Int × Unit), Kd.wf (Kd.int IntKind.i64) y_2.fst ∧ True → y_2.fst = typK y_1.fst → (2 : Nat) ≤ (65536 :
  Nat) ∧ ((!y_1.snd.snd.fst) = false → True) ∧ ((!y_1.snd.snd.fst) = false → ((!y_1.snd.snd.fst) == false) = true ∧ True) ∧ ((!y_1.snd.snd.fst) = false → ((!y_1.snd.snd.fst) == false) = true)
  ∧ ((bif !y_1.snd.snd.fst then true else !y.snd.fst) = false → True) ∧ ((bif !y_1.snd.snd.fst then true else !y.snd.fst) = false → ((bif !y_1.snd.snd.fst then true else !y.snd.fst) == false)
  = true ∧ True ∧ (∀ (y_3 : Bool × Unit), Kd.wf Kd.bool y_3.fst ∧ True → y_3.fst = mayA (y_2.fst, y.fst) → ((!y_3.fst) = false → True) ∧ ((!y_3.fst) = false → ((!y_3.fst) == false) = true ∧
  True) ∧ ((!y_3.fst) = false → ((!y_3.fst) == false) = true ∧ True) ∧ ((!y_3.fst) = false → ((!y_3.fst) == false) = true) ∧ ((bif !y_3.fst then true else decide ((↑(List.length
  z.snd.snd.snd.snd.snd.fst) : Int) = (16 : Int))) = true → parN x.fst [] (120 : Int) = true) ∧ ((bif !y_3.fst then true else decide ((↑(List.length z.snd.snd.snd.snd.snd.fst) : Int) = (16 :
  Int))) = false → (0 : Nat) < (2 : Nat) ∧ (List.length z.snd.snd.snd.snd.snd.fst + List.length [(y_2.fst, y.fst)]) * (24 : Nat) ≤ (140737488355328 : Nat) ∧ List.length
  z.snd.snd.snd.snd.snd.fst + List.length [(y_2.fst, y.fst)] ≤ (9223372036854775807 : Nat) ∧ parN x.fst (z.snd.snd.snd.snd.snd.fst ++ [(y_2.fst, y.fst)]) (0 : Int) = true)) ∧ True) ∧ ((bif
  !y_1.snd.snd.fst then true else !y.snd.fst) = !false → parN x.fst [] (120 : Int) = true)) ∧ True) ∧ True) ∧ True))
theorem e18 : t18 = Con.vc c_name_Parse GL (mkEnv ty [(21, i21), (36, conSem c_strings_Cut), (37, conSem c_name_plain), (38, conSem c_name_typeOf), (39, conSem c_name_may)] [(41, i41)] [] [0, 2, 3, 4, 5, 6, 7, 8, 9, 10, 11, 13, 16, 17, 48]) {} Tryd.f18.ntmps Tryd.f18.results.toList (bodyOf Tryd.f18) := by kernel_rfl
theorem k18 : t18 := by
  unfold t18
  rintro ⟨s, _⟩ hx hp
  have hp : s.length ≤ 10000000 := hp
  try dsimp +instances only [dft_int, dft_sl, dft_str]
  simp only [true_and, and_true, eq_self_iff_true, implies_true, reduceCtorEq, false_implies, true_implies, decide_eq_true_eq, decide_eq_false_iff_not, beq_self_eq_true, Bool.not_eq_true', ne_eq, Decidable.not_not, List.nil_append, List.length_singleton, List.length_cons, List.length_nil, Nat.zero_add, Nat.add_zero, Nat.mul_one, and_self, beq_iff_eq, Bool.not_true, Bool.not_false, Bool.not_eq_false', Bool.cond_false_right, Bool.and_eq_true, imp_self, Bool.not_eq_true, Bool.cond_true_left, Bool.or_eq_true]
  rw [show bs { data := #[61] } = [61] by decide, bs_nil]
  refine ⟨by decide, by decide, by decide, fun h => by rw [h]; exact parN_iff.2 (.inl ⟨rfl, rfl, rfl⟩), fun hs => ⟨by decide, ?_⟩⟩
  refine ⟨fun y z => z.2.2.2.1.1 = s ∧ 0 ≤ y.1 ∧ y.1 ≤ s.length + 1 ∧ 0 ≤ y.2.1 ∧ y.2.1 ≤ y.1 ∧ y.2.1 ≤ s.length ∧ (z.2.2.2.2.2.1 : List AttrT).length ≤ 16 ∧ (∀ a ∈ (z.2.2.2.2.2.1 : List AttrT), mayA a = true) ∧ partsE s = (z.2.2.2.2.2.1 : List AttrT).map attrT ++ pcs s y.2.1.toNat y.1.toNat, fun y _ => ((s.length : Int) + 1 - y.1).toNat, ⟨rfl, Int.le_refl 0, by simp only; omega, Int.le_refl 0, Int.le_refl 0, by simp only; omega, by simp, (fun a ha => by cases ha), rfl⟩, ?_⟩
  rintro ⟨i, f, _⟩ ⟨_, ⟨q, _⟩, _, ⟨sv, _⟩, o, acc, _⟩ _ _ ⟨e1, i0, i1, f0, f1, f2, h16, hA, e⟩
  simp only at e1 i0 i1 f0 f1 f2 h16 hA e ⊢
  subst e1
  rw [show ([61] : List Int).getD 0 0 = 61 from rfl]
  refine ⟨fun hlt => ⟨⟨i0, hlt⟩, fun hc => ?_, fun hc => ⟨fun h4 => ⟨⟨f0, f1, by omega⟩, ⟨by have := piece_len (s := sv) (f := f.toNat) (i := i.toNat); omega, rfl⟩, ?_⟩, fun h4 => ?_⟩⟩, fun hge => ⟨⟨f0, f2⟩, ⟨by rw [List.length_drop]; omega, rfl⟩, ?_⟩⟩
  · rw [wrapK (i + 1) (by omega) (by omega), wrapK (i + 1 + 1) (by omega) (by omega)]
    refine ⟨⟨rfl, by omega, by omega, f0, by omega, f2, h16, hA, ?_⟩, by omega⟩
    rw [e, pcs_two (by omega) (by omega) hc, show i.toNat + 2 = (i + 1 + 1).toNat by omega]
  · have hlen := piece_len (s := sv) (f := f.toNat) (i := i.toNat)
    rw [pcs_comma (by omega) h4, show i.toNat + 1 = (i + 1).toNat by omega] at e
    generalize (sv.take i.toNat).drop f.toNat = p at e hlen
    have hn : noC p = true := parts_noC (s := sv) (by rw [e]; simp)
    have hcl := cut_len p
    rintro ⟨w, r, g, _⟩ _ ⟨ew, er, eg⟩
    simp only at ew er eg ⊢
    refine ⟨by rw [er]; omega, ?_⟩
    rintro ⟨v, ok, _⟩ _ ev
    rintro ⟨k, _⟩ _ ek
    simp only at ev ek ⊢
    subst ew er eg ek
    have ev1 : v = (PlainD (cutD 61 p).2.1).1 := (congrArg Prod.fst ev)
    have ev2 : ok = (PlainD (cutD 61 p).2.1).2 := (congrArg Prod.snd ev)
    subst ev1 ev2
    refine ⟨by decide, fun hh => ⟨hh, ?_⟩, fun hh => piece_bad hs e (.inl (pA_none (hh.imp id .inl)))⟩
    simp only [Bool.or_eq_false_iff, Bool.not_eq_false'] at hh
    rintro ⟨b, _⟩ _ eb
    simp only at eb ⊢
    subst eb
    refine ⟨fun hh2 => piece_bad hs e (hh2.imp (fun h => pA_none (.inr (.inr h))) (by omega)), fun hh2 => ?_⟩
    simp only [Bool.or_eq_false_iff, Bool.not_eq_false', decide_eq_false_iff_not] at hh2
    obtain ⟨k1, k2⟩ := attr_pA hn (pA_some hh.1 hh.2 hh2.1)
    rw [wrapK (i + 1) (by omega) (by omega)]
    refine ⟨by decide, by omega, by omega, ⟨by trivial, by omega, by omega, by omega, by omega, by omega, by rw [List.length_append, List.length_singleton]; omega, fun a ha => ?_, ?_⟩, by omega⟩
    · rcases List.mem_append.1 ha with ha | ha
      · exact hA a ha
      · rw [List.mem_singleton.1 ha]; exact k2
    · rw [e, List.map_append, List.map_singleton, k1]; simp
  · rw [wrapK (i + 1) (by omega) (by omega)]
    refine ⟨⟨rfl, by omega, by omega, f0, by omega, f2, h16, hA, ?_⟩, by omega⟩
    rw [e, pcs_one (by omega) (by omega) h4 hc, show i.toNat + 1 = (i + 1).toNat by omega]
  · have hlen : (sv.drop f.toNat).length ≤ sv.length := by rw [List.length_drop]; omega
    rw [pcs_end (by omega)] at e
    generalize sv.drop f.toNat = p at e hlen
    have hn : noC p = true := parts_noC (s := sv) (by rw [e]; simp)
    have hcl := cut_len p
    rintro ⟨w, r, g, _⟩ _ ⟨ew, er, eg⟩
    simp only at ew er eg ⊢
    refine ⟨by rw [er]; omega, ?_⟩
    rintro ⟨v, ok, _⟩ _ ev
    rintro ⟨k, _⟩ _ ek
    simp only at ev ek ⊢
    subst ew er eg ek
    have ev1 : v = (PlainD (cutD 61 p).2.1).1 := (congrArg Prod.fst ev)
    have ev2 : ok = (PlainD (cutD 61 p).2.1).2 := (congrArg Prod.snd ev)
    subst ev1 ev2
    refine ⟨by decide, fun hh => ⟨hh, ?_⟩, fun hh => piece_bad hs e (.inl (pA_none (hh.imp id .inl)))⟩
    simp only [Bool.or_eq_false_iff, Bool.not_eq_false'] at hh
    rintro ⟨b, _⟩ _ eb
    simp only at eb ⊢
    subst eb
    refine ⟨fun hh2 => piece_bad hs e (hh2.imp (fun h => pA_none (.inr (.inr h))) (by omega)), fun hh2 => ?_⟩
    simp only [Bool.or_eq_false_iff, Bool.not_eq_false', decide_eq_false_iff_not] at hh2
    obtain ⟨k1, k2⟩ := attr_pA hn (pA_some hh.1 hh.2 hh2.1)
    refine ⟨by decide, by omega, by omega, read_ok hs (by rw [List.length_append, List.length_singleton]; omega) ?_ fun a ha => ?_⟩
    · rw [e, List.map_append, List.map_singleton, k1]
    · rcases List.mem_append.1 ha with ha | ha
      · exact hA a ha
      · rw [List.mem_singleton.1 ha]; exact k2
theorem h18 : c_name_Parse.ok Tryd.prog GL 18 := con_ok (H := {}) (mkEnv_ok (gl := GL) (l := [(21, i21), (36, conSem c_strings_Cut), (37, conSem c_name_plain), (38, conSem c_name_typeOf), (39, conSem c_name_may)]) (q := [(41, i41)]) (d := []) _ tyOk (by kernel_rfl) ⟨i21_ok, h36.call, h37.call, h38.call, h39.call, trivial⟩ ⟨i41_ok, trivial⟩ trivial) (by kernel_rfl) (by kernel_rfl) (Eq.mp e18 k18)

def t19 : Prop :=
  ∀ (x : List Int × Unit), Kd.wf Kd.str x.fst ∧ True → List.length x.fst ≤ (10000000 : Nat) → (decide (x.fst = bs { data := #[] }) = true → parN x.fst [] (0 : Int) = true) ∧ (decide (x.fst =
  bs { data := #[] }) = false → List.length x.fst ≤ (10000000 : Nat) ∧ (∀ (y : List (List Int) × Unit), Kd.wf (Kd.sl Kd.str) y.fst ∧ True → y.fst = partsE x.fst → ∃ (I : Int × Unit → List
  (Int × List Int) × Unit → Prop), ∃ (μ : Int × Unit → List (Int × List Int) × Unit → Nat), (Value.bool false = Value.bool false ∧ (0 : Int) = (0 : Int) ∧ Value.slice none (0 : Nat) (0 : Nat)
  = Value.slice none (0 : Nat) (0 : Nat) ∧ x.fst = x.fst ∧ y.fst = y.fst ∧ I ((0 : Int), ()) ([], ())) ∧ ∀ (y_1 : Int × Unit) (z : List (Int × List Int) × Unit), Kd.wf (Kd.int IntKind.i64)
  y_1.fst ∧ True → Kd.wf (Kd.sl (Kd.pair (Kd.int IntKind.i64) Kd.str)) z.fst ∧ True → I y_1 z → (decide (y_1.fst < (↑(List.length y.fst) : Int)) = true → ∃ (I_1 : Int × Unit → Unit → Prop), ∃
  (μ_1 : Int × Unit → Unit → Nat), (Value.bool true = Value.bool true ∧ y_1.fst = y_1.fst ∧ Value.bool false = Value.bool false ∧ (0 : Int) = (0 : Int) ∧ Value.slice none (0 : Nat) (0 : Nat)
  = Value.slice none (0 : Nat) (0 : Nat) ∧ x.fst = x.fst ∧ y.fst = y.fst ∧ z.fst = z.fst ∧ I_1 ((0 : Int), ()) ()) ∧ ∀ (y_2 : Int × Unit) (z_1 : Unit), Kd.wf (Kd.int IntKind.i64) y_2.fst ∧
  True → True → I_1 y_2 z_1 → ((0 : Int) ≤ y_1.fst ∧ y_1.fst < (↑(List.length y.fst) : Int)) ∧ (decide (y_2.fst < (↑(List.length (List.getD y.fst (Int.toNat y_1.fst) (Kd.dft Kd.str))) : Int))
  = true → True) ∧ (decide (y_2.fst < (↑(List.length (List.getD y.fst (Int.toNat y_1.fst) (Kd.dft Kd.str))) : Int)) = true → True) ∧ (decide (y_2.fst < (↑(List.length (List.getD y.fst
  (Int.toNat y_1.fst) (Kd.dft Kd.str))) : Int)) = true → (decide (y_2.fst < (↑(List.length (List.getD y.fst (Int.toNat y_1.fst) (Kd.dft Kd.str))) : Int)) == true) = true ∧ (decide (y_2.fst <
  (↑(List.length (List.getD y.fst (Int.toNat y_1.fst) (Kd.dft Kd.str))) : Int)) == true) = true ∧ ((0 : Int) ≤ y_1.fst ∧ y_1.fst < (↑(List.length y.fst) : Int)) ∧ True) ∧ (decide (y_2.fst <
  (↑(List.length (List.getD y.fst (Int.toNat y_1.fst) (Kd.dft Kd.str))) : Int)) = true → (decide (y_2.fst < (↑(List.length (List.getD y.fst (Int.toNat y_1.fst) (Kd.dft Kd.str))) : Int)) ==
  true) = true ∧ True) ∧ (decide (y_2.fst < (↑(List.length (List.getD y.fst (Int.toNat y_1.fst) (Kd.dft Kd.str))) : Int)) = true → True) ∧ (decide (y_2.fst < (↑(List.length (List.getD y.fst
  (Int.toNat y_1.fst) (Kd.dft Kd.str))) : Int)) = true → (decide (y_2.fst < (↑(List.length (List.getD y.fst (Int.toNat y_1.fst) (Kd.dft Kd.str))) : Int)) == true) = true ∧ (decide (y_2.fst <
  (↑(List.length (List.getD y.fst (Int.toNat y_1.fst) (Kd.dft Kd.str))) : Int)) == true) = true ∧ ((0 : Int) ≤ y_2.fst ∧ y_2.fst < (↑(List.length (List.getD y.fst (Int.toNat y_1.fst) (Kd.dft
  Kd.str))) : Int)) ∧ True) ∧ (decide (y_2.fst < (↑(List.length (List.getD y.fst (Int.toNat y_1.fst) (Kd.dft Kd.str))) : Int)) = true → (decide (y_2.fst < (↑(List.length (List.getD y.fst
  (Int.toNat y_1.fst) (Kd.dft Kd.str))) : Int)) == true) = true ∧ True) ∧ (decide (y_2.fst < (↑(List.length (List.getD y.fst (Int.toNat y_1.fst) (Kd.dft Kd.str))) : Int)) = true → (decide
  (y_2.fst < (↑(List.length (List.getD y.fst (Int.toNat y_1.fst) (Kd.dft Kd.str))) : Int)) == true) = true) ∧ ((bif decide (y_2.fst < (↑(List.length (List.getD y.fst (Int.toNat y_1.fst)
  (Kd.dft Kd.str))) : Int)) then decide (List.getD (List.getD y.fst (Int.toNat y_1.fst) (Kd.dft Kd.str)) (Int.toNat y_2.fst) (0 : Int) ≠ (61 : Int)) else false) = true → Value.bool true =
  Value.bool true ∧ y_1.fst = y_1.fst ∧ Value.bool false = Value.bool false ∧ (0 : Int) = (0 : Int) ∧ Value.slice none (0 : Nat) (0 : Nat) = Value.slice none (0 : Nat) (0 : Nat) ∧ x.fst =
  x.fst ∧ y.fst = y.fst ∧ z.fst = z.fst ∧ I_1 (IntKind.wrap IntKind.i64 (y_2.fst + (1 : Int)), ()) () ∧ μ_1 (IntKind.wrap IntKind.i64 (y_2.fst + (1 : Int)), ()) () < μ_1 y_2 z_1) ∧ ((bif
  decide (y_2.fst < (↑(List.length (List.getD y.fst (Int.toNat y_1.fst) (Kd.dft Kd.str))) : Int)) then decide (List.getD (List.getD y.fst (Int.toNat y_1.fst) (Kd.dft Kd.str)) (Int.toNat
  y_2.fst) (0 : Int) ≠ (61 : Int)) else false) = false → ∃ (I_2 : Int × Int × Unit → Unit → Prop), ∃ (μ_2 : Int × Int × Unit → Unit → Nat), (Value.bool false = Value.bool false ∧ y_2.fst =
  y_2.fst ∧ Value.bool true = Value.bool true ∧ y_1.fst = y_1.fst ∧ Value.bool false = Value.bool false ∧ (0 : Int) = (0 : Int) ∧ Value.slice none (0 : Nat) (0 : Nat) = Value.slice none (0 :
  Nat) (0 : Nat) ∧ x.fst = x.fst ∧ y.fst = y.fst ∧ z.fst = z.fst ∧ I_2 ((1 : Int), (0 : Int), ()) ()) ∧ ∀ (y_3 : Int × Int × Unit) (z_2 : Unit), Kd.wf (Kd.int IntKind.i64) y_3.fst ∧ Kd.wf
  (Kd.int IntKind.i64) y_3.snd.fst ∧ True → True → I_2 y_3 z_2 → (decide (y_3.fst < (12 : Int)) = true → (True ∧ (∀ (y_4 : List Int × Unit), Kd.wf Kd.str y_4.fst ∧ True → y_4.fst = labelK
  y_3.fst → ((decide (y_4.fst ≠ bs { data := #[] }) = true → (decide (y_4.fst ≠ bs { data := #[] }) == true) = true ∧ (decide (y_4.fst ≠ bs { data := #[] }) == true) = true ∧ ((0 : Int) ≤
  y_1.fst ∧ y_1.fst < (↑(List.length y.fst) : Int)) ∧ True) ∧ ((decide (y_4.fst ≠ bs { data := #[] }) = true → (decide (y_4.fst ≠ bs { data := #[] }) == true) = true ∧ True ∧ (∀ (y_5 : List
  Int × Unit), Kd.wf Kd.str y_5.fst ∧ True → y_5.fst = labelK y_3.fst → ((decide (y_4.fst ≠ bs { data := #[] }) == true) = true ∧ ((decide (y_4.fst ≠ bs { data := #[] }) == true) = true ∧ ((0
  : Int) ≤ y_2.fst ∧ y_2.fst ≤ (↑(List.length (List.getD y.fst (Int.toNat y_1.fst) (Kd.dft Kd.str))) : Int)) ∧ (((decide (y_5.fst = List.take (Int.toNat y_2.fst) (List.getD y.fst (Int.toNat
  y_1.fst) (Kd.dft Kd.str))) = true → Value.bool false = Value.bool false ∧ y_2.fst = y_2.fst ∧ Value.bool true = Value.bool true ∧ y_1.fst = y_1.fst ∧ Value.bool false = Value.bool false ∧
  (0 : Int) = (0 : Int) ∧ Value.slice none (0 : Nat) (0 : Nat) = Value.slice none (0 : Nat) (0 : Nat) ∧ x.fst = x.fst ∧ y.fst = y.fst ∧ z.fst = z.fst ∧ I_2 (IntKind.wrap IntKind.i64 (y_3.fst
  + (1 : Int)), y_3.fst, ()) () ∧ μ_2 (IntKind.wrap IntKind.i64 (y_3.fst + (1 : Int)), y_3.fst, ()) () < μ_2 y_3 z_2) ∧ (decide (y_5.fst = List.take (Int.toNat y_2.fst) (List.getD y.fst
  (Int.toNat y_1.fst) (Kd.dft Kd.str))) = false → Value.bool false = Value.bool false ∧ y_2.fst = y_2.fst ∧ Value.bool true = Value.bool true ∧ y_1.fst = y_1.fst ∧ Value.bool false =
  Value.bool false ∧ (0 : Int) = (0 : Int) ∧ Value.slice none (0 : Nat) (0 : Nat) = Value.slice none (0 : Nat) (0 : Nat) ∧ x.fst = x.fst ∧ y.fst = y.fst ∧ z.fst = z.fst ∧ I_2 (IntKind.wrap
  IntKind.i64 (y_3.fst + (1 : Int)), y_3.snd.fst, ()) () ∧ μ_2 (IntKind.wrap IntKind.i64 (y_3.fst + (1 : Int)), y_3.snd.fst, ()) () < μ_2 y_3 z_2)) ∧ True) ∧ True) ∧ True) ∧ True) ∧ True) ∧
  (decide (y_4.fst ≠ bs { data := #[] }) = !true → ((((Value.bool false = Value.bool false ∧ y_2.fst = y_2.fst ∧ Value.bool true = Value.bool true ∧ y_1.fst = y_1.fst ∧ Value.bool false =
  Value.bool false ∧ (0 : Int) = (0 : Int) ∧ Value.slice none (0 : Nat) (0 : Nat) = Value.slice none (0 : Nat) (0 : Nat) ∧ x.fst = x.fst ∧ y.fst = y.fst ∧ z.fst = z.fst ∧ I_2 (IntKind.wrap
  IntKind.i64 (y_3.fst + (1 : Int)), y_3.snd.fst, ()) () ∧ μ_2 (IntKind.wrap IntKind.i64 (y_3.fst + (1 : Int)), y_3.snd.fst, ()) () < μ_2 y_3 z_2) ∧ True) ∧ True) ∧ True) ∧ True)) ∧ ((decide
  (y_4.fst ≠ bs { data := #[] }) = true → (decide (y_4.fst ≠ bs { data := #[] }) == true) = true ∧ True) ∧ ((decide (y_4.fst ≠ bs { data := #[] }) = true → (decide (y_4.fst ≠ bs { data := #[]
  }) == true) = true ∧ True ∧ (∀ (y_5 : List Int × Unit), Kd.wf Kd.str y_5.fst ∧ True → y_5.fst = labelK y_3.fst → ((decide (y_4.fst ≠ bs { data := #[] }) == true) = true ∧ (decide (y_4.fst ≠
  bs { data := #[] }) == true) = true ∧ ((0 : Int) ≤ y_2.fst ∧ y_2.fst ≤ (↑(List.length (List.getD y.fst (Int.toNat y_1.fst) (Kd.dft Kd.str))) : Int)) ∧ (((decide (y_5.fst = List.take
  (Int.toNat y_2.fst) (List.getD y.fst (Int.toNat y_1.fst) (Kd.dft Kd.str))) = true → Value.bool false = Value.bool false ∧ y_2.fst = y_2.fst ∧ Value.bool true = Value.bool true ∧ y_1.fst =
  y_1.fst ∧ Value.bool false = Value.bool false ∧ (0 : Int) = (0 : Int) ∧ Value.slice none (0 : Nat) (0 : Nat) = Value.slice none (0 : Nat) (0 : Nat) ∧ x.fst = x.fst ∧ y.fst = y.fst ∧ z.fst =
  z.fst ∧ I_2 (IntKind.wrap IntKind.i64 (y_3.fst + (1 : Int)), y_3.fst, ()) () ∧ μ_2 (IntKind.wrap IntKind.i64 (y_3.fst + (1 : Int)), y_3.fst, ()) () < μ_2 y_3 z_2) ∧ (decide (y_5.fst =
  List.take (Int.toNat y_2.fst) (List.getD y.fst (Int.toNat y_1.fst) (Kd.dft Kd.str))) = false → Value.bool false = Value.bool false ∧ y_2.fst = y_2.fst ∧ Value.bool true = Value.bool true ∧
  y_1.fst = y_1.fst ∧ Value.bool false = Value.bool false ∧ (0 : Int) = (0 : Int) ∧ Value.slice none (0 : Nat) (0 : Nat) = Value.slice none (0 : Nat) (0 : Nat) ∧ x.fst = x.fst ∧ y.fst = y.fst
  ∧ z.fst = z.fst ∧ I_2 (IntKind.wrap IntKind.i64 (y_3.fst + (1 : Int)), y_3.snd.fst, ()) () ∧ μ_2 (IntKind.wrap IntKind.i64 (y_3.fst + (1 : Int)), y_3.snd.fst, ()) () < μ_2 y_3 z_2)) ∧ True)
  ∧ True) ∧ True) ∧ True) ∧ (decide (y_4.fst ≠ bs { data := #[] }) = !true → (((Value.bool false = Value.bool false ∧ y_2.fst = y_2.fst ∧ Value.bool true = Value.bool true ∧ y_1.fst = y_1.fst
  ∧ Value.bool false = Value.bool false ∧ (0 : Int) = (0 : Int) ∧ Value.slice none (0 : Nat) (0 : Nat) = Value.slice none (0 : Nat) (0 : Nat) ∧ x.fst = x.fst ∧ y.fst = y.fst ∧ z.fst = z.fst ∧
  I_2 (IntKind.wrap IntKind.i64 (y_3.fst + (1 : Int)), y_3.snd.fst, ()) () ∧ μ_2 (IntKind.wrap IntKind.i64 (y_3.fst + (1 : Int)), y_3.snd.fst, ()) () < μ_2 y_3 z_2) ∧ True) ∧ True) ∧ True)) ∧
  ((decide (y_4.fst ≠ bs { data := #[] }) = true → (decide (y_4.fst ≠ bs { data := #[] }) == true) = true ∧ (decide (y_4.fst ≠ bs { data := #[] }) == true) = true ∧ ((0 : Int) ≤ y_2.fst ∧
  y_2.fst ≤ (↑(List.length (List.getD y.fst (Int.toNat y_1.fst) (Kd.dft Kd.str))) : Int)) ∧ True) ∧ ((decide (y_4.fst ≠ bs { data := #[] }) = true → (decide (y_4.fst ≠ bs { data := #[] }) ==
  true) = true ∧ True ∧ (∀ (y_5 : List Int × Unit), Kd.wf Kd.str y_5.fst ∧ True → y_5.fst = labelK y_3.fst → ((decide (y_4.fst ≠ bs { data := #[] }) == true) = true ∧ ((decide (y_5.fst =
  List.take (Int.toNat y_2.fst) (List.getD y.fst (Int.toNat y_1.fst) (Kd.dft Kd.str))) = true → Value.bool false = Value.bool false ∧ y_2.fst = y_2.fst ∧ Value.bool true = Value.bool true ∧
  y_1.fst = y_1.fst ∧ Value.bool false = Value.bool false ∧ (0 : Int) = (0 : Int) ∧ Value.slice none (0 : Nat) (0 : Nat) = Value.slice none (0 : Nat) (0 : Nat) ∧ x.fst = x.fst ∧ y.fst = y.fst
  ∧ z.fst = z.fst ∧ I_2 (IntKind.wrap IntKind.i64 (y_3.fst + (1 : Int)), y_3.fst, ()) () ∧ μ_2 (IntKind.wrap IntKind.i64 (y_3.fst + (1 : Int)), y_3.fst, ()) () < μ_2 y_3 z_2) ∧ (decide
  (y_5.fst = List.take (Int.toNat y_2.fst) (List.getD y.fst (Int.toNat y_1.fst) (Kd.dft Kd.str))) = false → Value.bool false = Value.bool false ∧ y_2.fst = y_2.fst ∧ Value.bool true =
  Value.bool true ∧ y_1.fst = y_1.fst ∧ Value.bool false = Value.bool false ∧ (0 : Int) = (0 : Int) ∧ Value.slice none (0 : Nat) (0 : Nat) = Value.slice none (0 : Nat) (0 : Nat) ∧ x.fst =
  x.fst ∧ y.fst = y.fst ∧ z.fst = z.fst ∧ I_2 (IntKind.wrap IntKind.i64 (y_3.fst + (1 : Int)), y_3.snd.fst, ()) () ∧ μ_2 (IntKind.wrap IntKind.i64 (y_3.fst + (1 : Int)), y_3.snd.fst, ()) () <
  μ_2 y_3 z_2)) ∧ True) ∧ True) ∧ True) ∧ (decide (y_4.fst ≠ bs { data := #[] }) = !true → ((Value.bool false = Value.bool false ∧ y_2.fst = y_2.fst ∧ Value.bool true = Value.bool true ∧
  y_1.fst = y_1.fst ∧ Value.bool false = Value.bool false ∧ (0 : Int) = (0 : Int) ∧ Value.slice none (0 : Nat) (0 : Nat) = Value.slice none (0 : Nat) (0 : Nat) ∧ x.fst = x.fst ∧ y.fst = y.fst
  ∧ z.fst = z.fst ∧ I_2 (IntKind.wrap IntKind.i64 (y_3.fst + (1 : Int)), y_3.snd.fst, ()) () ∧ μ_2 (IntKind.wrap IntKind.i64 (y_3.fst + (1 : Int)), y_3.snd.fst, ()) () < μ_2 y_3 z_2) ∧ True)
  ∧ True)) ∧ True) ∧ True) ∧ True) ∧ True) ∧ True) ∧ True) ∧ (decide (y_3.fst < (12 : Int)) = false → ∃ (I_3 : Int × Unit → List Int × Unit → Prop), ∃ (μ_3 : Int × Unit → List Int × Unit →
  Nat), (Value.bool false = Value.bool false ∧ y_3.fst = y_3.fst ∧ y_3.snd.fst = y_3.snd.fst ∧ Value.bool false = Value.bool false ∧ y_2.fst = y_2.fst ∧ Value.bool true = Value.bool true ∧
  y_1.fst = y_1.fst ∧ Value.bool false = Value.bool false ∧ (0 : Int) = (0 : Int) ∧ Value.slice none (0 : Nat) (0 : Nat) = Value.slice none (0 : Nat) (0 : Nat) ∧ x.fst = x.fst ∧ y.fst = y.fst
  ∧ z.fst = z.fst ∧ I_3 (IntKind.wrap IntKind.i64 (y_2.fst + (1 : Int)), ()) ([], ())) ∧ ∀ (y_4 : Int × Unit) (z_3 : List Int × Unit), Kd.wf (Kd.int IntKind.i64) y_4.fst ∧ True → Kd.wf (Kd.sl
  (Kd.int IntKind.u8)) z_3.fst ∧ True → I_3 y_4 z_3 → ((0 : Int) ≤ y_1.fst ∧ y_1.fst < (↑(List.length y.fst) : Int)) ∧ (decide (y_4.fst < (↑(List.length (List.getD y.fst (Int.toNat y_1.fst)
  (Kd.dft Kd.str))) : Int)) = true → ∃ (J : Int × Unit → Unit → Prop), (((0 : Int) ≤ y_1.fst ∧ y_1.fst < (↑(List.length y.fst) : Int)) ∧ ((0 : Int) ≤ y_4.fst ∧ y_4.fst < (↑(List.length
  (List.getD y.fst (Int.toNat y_1.fst) (Kd.dft Kd.str))) : Int)) ∧ (decide (List.getD (List.getD y.fst (Int.toNat y_1.fst) (Kd.dft Kd.str)) (Int.toNat y_4.fst) (0 : Int) = (92 : Int)) = true
  → Value.bool true = Value.bool true ∧ Value.bool false = Value.bool false ∧ y_3.fst = y_3.fst ∧ y_3.snd.fst = y_3.snd.fst ∧ Value.bool false = Value.bool false ∧ y_2.fst = y_2.fst ∧
  Value.bool true = Value.bool true ∧ y_1.fst = y_1.fst ∧ Value.bool false = Value.bool false ∧ (0 : Int) = (0 : Int) ∧ Value.slice none (0 : Nat) (0 : Nat) = Value.slice none (0 : Nat) (0 :
  Nat) ∧ x.fst = x.fst ∧ y.fst = y.fst ∧ z.fst = z.fst ∧ z_3.fst = z_3.fst ∧ J (IntKind.wrap IntKind.i64 (y_4.fst + (1 : Int)), ()) ()) ∧ (decide (List.getD (List.getD y.fst (Int.toNat
  y_1.fst) (Kd.dft Kd.str)) (Int.toNat y_4.fst) (0 : Int) = (92 : Int)) = false → Value.bool true = Value.bool true ∧ Value.bool false = Value.bool false ∧ y_3.fst = y_3.fst ∧ y_3.snd.fst =
  y_3.snd.fst ∧ Value.bool false = Value.bool false ∧ y_2.fst = y_2.fst ∧ Value.bool true = Value.bool true ∧ y_1.fst = y_1.fst ∧ Value.bool false = Value.bool false ∧ (0 : Int) = (0 : Int) ∧
  Value.slice none (0 : Nat) (0 : Nat) = Value.slice none (0 : Nat) (0 : Nat) ∧ x.fst = x.fst ∧ y.fst = y.fst ∧ z.fst = z.fst ∧ z_3.fst = z_3.fst ∧ J (y_4.fst, ()) ())) ∧ ∀ (u : Int × Unit)
  (z_4 : Unit), Kd.wf (Kd.int IntKind.i64) u.fst ∧ True → True → J u z_4 → ((0 : Int) ≤ y_1.fst ∧ y_1.fst < (↑(List.length y.fst) : Int)) ∧ (decide (u.fst < (↑(List.length (List.getD y.fst
  (Int.toNat y_1.fst) (Kd.dft Kd.str))) : Int)) = true → ((0 : Int) ≤ y_1.fst ∧ y_1.fst < (↑(List.length y.fst) : Int)) ∧ ((0 : Int) ≤ u.fst ∧ u.fst < (↑(List.length (List.getD y.fst
  (Int.toNat y_1.fst) (Kd.dft Kd.str))) : Int)) ∧ (0 : Nat) < (1 : Nat) ∧ (List.length z_3.fst + List.length [List.getD (List.getD y.fst (Int.toNat y_1.fst) (Kd.dft Kd.str)) (Int.toNat u.fst)
  (0 : Int)]) * (1 : Nat) ≤ (140737488355328 : Nat) ∧ List.length z_3.fst + List.length [List.getD (List.getD y.fst (Int.toNat y_1.fst) (Kd.dft Kd.str)) (Int.toNat u.fst) (0 : Int)] ≤
  (9223372036854775807 : Nat) ∧ Value.bool false = Value.bool false ∧ y_3.fst = y_3.fst ∧ y_3.snd.fst = y_3.snd.fst ∧ Value.bool false = Value.bool false ∧ y_2.fst = y_2.fst ∧ Value.bool true
  = Value.bool true ∧ y_1.fst = y_1.fst ∧ Value.bool false = Value.bool false ∧ (0 : Int) = (0 : Int) ∧ Value.slice none (0 : Nat) (0 : Nat) = Value.slice none (0 : Nat) (0 : Nat) ∧ x.fst =
  x.fst ∧ y.fst = y.fst ∧ z.fst = z.fst ∧ I_3 (IntKind.wrap IntKind.i64 (u.fst + (1 : Int)), ()) (z_3.fst ++ [List.getD (List.getD y.fst (Int.toNat y_1.fst) (Kd.dft Kd.str)) (Int.toNat u.fst)
  (0 : Int)], ()) ∧ μ_3 (IntKind.wrap IntKind.i64 (u.fst + (1 : Int)), ()) (z_3.fst ++ [List.getD (List.getD y.fst (Int.toNat y_1.fst) (Kd.dft Kd.str)) (Int.toNat u.fst) (0 : Int)], ()) < μ_3
  y_4 z_3) ∧ (decide (u.fst < (↑(List.length (List.getD y.fst (Int.toNat y_1.fst) (Kd.dft Kd.str))) : Int)) = false → Value.bool false = Value.bool false ∧ y_3.fst = y_3.fst ∧ y_3.snd.fst =
  y_3.snd.fst ∧ Value.bool false = Value.bool false ∧ y_2.fst = y_2.fst ∧ Value.bool true = Value.bool true ∧ y_1.fst = y_1.fst ∧ Value.bool false = Value.bool false ∧ (0 : Int) = (0 : Int) ∧
  Value.slice none (0 : Nat) (0 : Nat) = Value.slice none (0 : Nat) (0 : Nat) ∧ x.fst = x.fst ∧ y.fst = y.fst ∧ z.fst = z.fst ∧ I_3 (IntKind.wrap IntKind.i64 (u.fst + (1 : Int)), ())
  (z_3.fst, ()) ∧ μ_3 (IntKind.wrap IntKind.i64 (u.fst + (1 : Int)), ()) (z_3.fst, ()) < μ_3 y_4 z_3)) ∧ (decide (y_4.fst < (↑(List.length (List.getD y.fst (Int.toNat y_1.fst) (Kd.dft
  Kd.str))) : Int)) = false → (0 : Nat) < (2 : Nat) ∧ (List.length z.fst + List.length [(y_3.snd.fst, z_3.fst)]) * (24 : Nat) ≤ (140737488355328 : Nat) ∧ List.length z.fst + List.length
  [(y_3.snd.fst, z_3.fst)] ≤ (9223372036854775807 : Nat) ∧ Value.bool false = Value.bool false ∧ (0 : Int) = (0 : Int) ∧ Value.slice none (0 : Nat) (0 : Nat) = Value.slice none (0 : Nat) (0 :
  Nat) ∧ x.fst = x.fst ∧ y.fst = y.fst ∧ I (IntKind.wrap IntKind.i64 (y_1.fst + (1 : Int)), ()) (z.fst ++ [(y_3.snd.fst, z_3.fst)], ()) ∧ μ (IntKind.wrap IntKind.i64 (y_1.fst + (1 : Int)),
  ()) (z.fst ++ [(y_3.snd.fst, z_3.fst)], ()) < μ y_1 z)))) ∧ (decide (y_1.fst < (↑(List.length y.fst) : Int)) = false → (List.length z.fst ≤ (1000000000 : Nat) ∧ ∀ (a : Int × List Int), a ∈
  z.fst → List.length a.snd ≤ (100000000 : Nat)) ∧ (∀ (y : List Int × Int × Unit), Kd.wf Kd.str y.fst ∧ Kd.wf (Kd.int IntKind.i64) y.snd.fst ∧ True → (y.fst, y.snd.fst) = TextN z.fst →
  (decide (y.snd.fst ≠ (0 : Int)) = false → True) ∧ (decide (y.snd.fst ≠ (0 : Int)) = false → True) ∧ (decide (y.snd.fst ≠ (0 : Int)) = false → (decide (y.snd.fst ≠ (0 : Int)) == false) =
  true ∧ (decide (y.snd.fst ≠ (0 : Int)) == false) = true ∧ True) ∧ (decide (y.snd.fst ≠ (0 : Int)) = false → (decide (y.snd.fst ≠ (0 : Int)) == false) = true) ∧ ((bif decide (y.snd.fst ≠ (0
  : Int)) then true else decide (y.fst ≠ x.fst)) = true → parN x.fst [] (120 : Int) = true) ∧ ((bif decide (y.snd.fst ≠ (0 : Int)) then true else decide (y.fst ≠ x.fst)) = false → parN x.fst
  z.fst (0 : Int) = true)) ∧ True)) ∧ True)
theorem e19 : t19 = Con.vc c_r12_Parse GL (mkEnv ty [(22, conSem c_r12_Parts), (40, conSem c_r12_Label), (28, conSem c_r12_Text)] [] [] [0, 2, 3, 4, 5, 6, 7, 8, 9, 10, 11, 12, 13, 15, 21, 39, 43, 59, 69, 78, 87, 115]) {joins := [23]} Tryd.f19.ntmps Tryd.f19.results.toList (bodyOf Tryd.f19) := by kernel_rfl
theorem k19 : t19 := by
  unfold t19
  rintro ⟨s, _⟩ hx hp
  have hp : s.length ≤ 10000000 := hp
  try dsimp +instances only [dft_int, dft_sl, dft_str]
  simp only [true_and, and_true, eq_self_iff_true, implies_true, reduceCtorEq, false_implies, true_implies, decide_eq_true_eq, decide_eq_false_iff_not, beq_self_eq_true, Bool.not_eq_true', ne_eq, Decidable.not_not, List.nil_append, List.length_singleton, List.length_cons, List.length_nil, Nat.zero_add, Nat.add_zero, Nat.mul_one, and_self, beq_iff_eq, Bool.not_true, Bool.not_false, Bool.not_eq_false', Bool.cond_false_right, Bool.and_eq_true, imp_self, Bool.not_eq_true, Bool.cond_true_left, Bool.or_eq_true]
  rw [bs_nil]
  refine ⟨fun h => by rw [h]; exact parN_iff.2 (.inl ⟨rfl, rfl, rfl⟩), fun hs => ⟨hp, ?_⟩⟩
  rintro ⟨L, _⟩ _ eL
  simp only at eL ⊢
  have hcnt := pcs_len s
  rw [← eL] at hcnt
  have hpl : ∀ p ∈ L, p.length ≤ s.length := fun p hm => parts_len (by rw [← eL]; exact hm)
  refine ⟨fun y z => 0 ≤ y.1 ∧ y.1 ≤ L.length ∧ z.1 = (L.take y.1.toNat).map gA, fun y _ => ((L.length : Int) - y.1).toNat, ⟨Int.le_refl 0, by simp only; omega, rfl⟩, ?_⟩
  rintro ⟨i, _⟩ ⟨n, _⟩ _ _ ⟨i0, i1, en⟩
  simp only at i0 i1 en ⊢
  have hnl : n.length ≤ L.length := by rw [en, List.length_map, List.length_take]; omega
  refine ⟨fun hlt => ?_, fun hge => ?_⟩
  · have hm := hpl _ (mem_getD [] L i.toNat (by omega))
    have hst : (L.take (i.toNat + 1)).map gA = n ++ [gA (L.getD i.toNat [])] := by rw [take_snocA [] L i.toNat (by omega), List.map_append, ← en]; rfl
    generalize L.getD i.toNat [] = p at hm hst
    refine ⟨fun y _ => 0 ≤ y.1 ∧ y.1 ≤ p.length ∧ ∀ j, j < y.1.toNat → p.getD j 0 ≠ 61, fun y _ => ((p.length : Int) - y.1).toNat, ⟨Int.le_refl 0, by simp only; omega, fun j hj => by simp at hj⟩, ?_⟩
    rintro ⟨a, _⟩ _ _ ⟨a0, a1, ha⟩
    simp only at a0 a1 ha ⊢
    refine ⟨⟨i0, hlt⟩, fun h => ⟨h, h, i0, hlt⟩, fun h => ⟨h, h, a0, h⟩, fun h => ?_, fun h => ?_⟩
    · rw [wrapK (a + 1) (by omega) (by omega)]
      refine ⟨⟨by omega, by omega, fun j hj => ?_⟩, by omega⟩
      by_cases hj2 : j < a.toNat
      · exact ha j hj2
      · rw [show j = a.toNat by omega]; exact h.2
    · have hw : (cutD 61 p).1 = p.take a.toNat := eq_before ha (by omega) (by
        simp only [Bool.and_eq_false_iff, decide_eq_false_iff_not, Decidable.not_not] at h
        omega)
      rw [← hw]
      have hal : (cutD 61 p).1.length = a.toNat := by rw [hw, List.length_take]; omega
      refine ⟨fun y _ => 1 ≤ y.1 ∧ y.1 ≤ 12 ∧ y.2.1 = if 1 ≤ typK (cutD 61 p).1 ∧ typK (cutD 61 p).1 < y.1 then typK (cutD 61 p).1 else 0, fun y _ => (12 - y.1).toNat, ⟨by decide, by decide, by rw [if_neg (by simp only; omega)]⟩, ?_⟩
      rintro ⟨k, r, _⟩ _ _ ⟨k0, k1, er⟩
      simp only at k0 k1 er ⊢
      refine ⟨fun hk => ?_, fun hk => ?_⟩
      · have b0 : 0 ≤ i ∧ i < (L.length : Int) := ⟨i0, hlt⟩
        have b1 : 0 ≤ a ∧ a ≤ (p.length : Int) := ⟨a0, a1⟩
        rw [wrapK (k + 1) (by omega) (by omega)]
        have S1 : labelK k ≠ [] → labelK k = (cutD 61 p).1 → (1 ≤ k + 1 ∧ k + 1 ≤ 12 ∧ k = if 1 ≤ typK (cutD 61 p).1 ∧ typK (cutD 61 p).1 < k + 1 then typK (cutD 61 p).1 else 0) ∧ (12 - (k + 1)).toNat < (12 - k).toNat := fun h1 h2 => by
          have := typ_label h1
          rw [h2] at this
          refine ⟨⟨by omega, by omega, ?_⟩, by omega⟩
          rw [this, if_pos (by omega)]
        have S0 : typK (cutD 61 p).1 ≠ k → (1 ≤ k + 1 ∧ k + 1 ≤ 12 ∧ r = if 1 ≤ typK (cutD 61 p).1 ∧ typK (cutD 61 p).1 < k + 1 then typK (cutD 61 p).1 else 0) ∧ (12 - (k + 1)).toNat < (12 - k).toNat := fun h1 => by
          refine ⟨⟨by omega, by omega, ?_⟩, by omega⟩
          rw [er]
          by_cases hc : 1 ≤ typK (cutD 61 p).1 ∧ typK (cutD 61 p).1 < k
          · rw [if_pos hc, if_pos (by omega)]
          · rw [if_neg hc, if_neg (by omega)]
        have S2 : labelK k ≠ (cutD 61 p).1 → typK (cutD 61 p).1 ≠ k := fun h1 h2 => h1 (by
          rw [← h2]; exact (typ_range (by omega)).2.2.1)
        have S3 : labelK k = [] → typK (cutD 61 p).1 ≠ k := fun h1 h2 => (typ_range (s := (cutD 61 p).1) (by omega)).2.2.2 (by
          rw [← (typ_range (s := (cutD 61 p).1) (by omega)).2.2.1, h2, h1])
        rintro ⟨l, _⟩ _ el
        simp only at el ⊢
        subst el
        have two : labelK k ≠ [] → ∀ y : List Int × Unit, Kd.str.wf y.1 → y.1 = labelK k → (y.1 = (cutD 61 p).1 → _) ∧ (¬ y.1 = (cutD 61 p).1 → _) := fun h1 y _ e => ⟨fun h => S1 h1 (e.symm.trans h), fun h => S0 (S2 fun h2 => h (e.trans h2))⟩
        exact ⟨fun h => ⟨h, h, b0⟩, ⟨fun h => ⟨h, fun y hy e => ⟨h, h, b1, two h y hy e⟩⟩, fun h => S0 (S3 h)⟩, ⟨fun h => ⟨h, fun y hy e => ⟨h, h, b1, two h y hy e⟩⟩, fun h => S0 (S3 h)⟩, fun h => ⟨h, h, b1⟩, fun h => ⟨h, fun y hy e => ⟨h, two h y hy e⟩⟩, fun h => S0 (S3 h)⟩
      · have er2 : r = typK (cutD 61 p).1 := by
          rw [er]
          by_cases hz : typK (cutD 61 p).1 = 0
          · rw [hz]; split <;> rfl
          · have := typ_range hz
            rw [if_pos (by omega)]
        rw [wrapK (a + 1) (by omega) (by omega)]
        refine ⟨fun y z => a + 1 ≤ y.1 ∧ y.1 ≤ p.length + 1 ∧ (z.1 : List Int).length ≤ y.1 ∧ looseD (p.drop (a.toNat + 1)) = z.1 ++ looseD (p.drop y.1.toNat), fun y _ => ((p.length : Int) + 1 - y.1).toNat, ⟨Int.le_refl _, by simp only; omega, by simp only [List.length_nil]; omega, by simp only; rw [show (a + 1).toNat = a.toNat + 1 by omega]; rfl⟩, ?_⟩
        rintro ⟨k, _⟩ ⟨v, _⟩ _ _ ⟨c0, c1, c2, ec⟩
        simp only at c0 c1 c2 ec ⊢
        refine ⟨⟨i0, hlt⟩, fun hkl => ?_, fun hkl => ?_⟩
        · have hdk := drop_cons p k.toNat (by omega)
          refine ⟨fun u _ => u.1 = if p.getD k.toNat 0 = 92 then k + 1 else k, ⟨⟨i0, hlt⟩, ⟨by omega, hkl⟩, fun hc => ?_, fun hc => ?_⟩, ?_⟩
          · rw [wrapK (k + 1) (by omega) (by omega), if_pos hc]
          · rw [if_neg hc]
          · rintro ⟨u, _⟩ _ _ eu
            simp only at eu ⊢
            by_cases hc : p.getD k.toNat 0 = 92
            · rw [if_pos hc] at eu
              subst eu
              rw [wrapK (k + 1 + 1) (by omega) (by omega)]
              rw [hdk, hc] at ec
              refine ⟨⟨i0, hlt⟩, fun hk1 => ⟨⟨i0, hlt⟩, ⟨by omega, hk1⟩, by decide, by omega, by omega, ⟨by omega, by omega, by rw [List.length_append, List.length_singleton]; omega, ?_⟩, by omega⟩, fun hk1 => ⟨⟨by omega, by omega, by omega, ?_⟩, by omega⟩⟩
              · rw [ec, drop_cons p (k.toNat + 1) (by omega), loose_two, show k.toNat + 1 = (k + 1).toNat by omega, show (k + 1).toNat + 1 = (k + 1 + 1).toNat by omega]
                simp
              · rw [ec, List.drop_of_length_le (l := p) (i := k.toNat + 1) (by omega), List.drop_of_length_le (by omega)]
                rfl
            · rw [if_neg hc] at eu
              subst eu
              rw [wrapK (u + 1) (by omega) (by omega)]
              rw [hdk, loose_one hc] at ec
              refine ⟨⟨i0, hlt⟩, fun hk1 => ⟨⟨i0, hlt⟩, ⟨by omega, hk1⟩, by decide, by omega, by omega, ⟨by omega, by omega, by rw [List.length_append, List.length_singleton]; omega, ?_⟩, by omega⟩, fun hk1 => absurd hkl hk1⟩
              rw [ec, show u.toNat + 1 = (u + 1).toNat by omega]
              simp
        · rw [List.drop_of_length_le (l := p) (i := k.toNat) (by omega)] at ec
          rw [wrapK (i + 1) (by omega) (by omega)]
          refine ⟨by decide, by omega, by omega, ⟨by omega, by omega, ?_⟩, by omega⟩
          rw [show (i + 1).toNat = i.toNat + 1 by omega, hst, gA, hal, ec, er2]
          simp [looseD]
  · have hnA : ∀ x ∈ n, x.2.length ≤ 100000000 := fun x hx => by
      rw [en] at hx
      obtain ⟨p, hp2, rfl⟩ := List.mem_map.1 hx
      have h1 := hpl p (List.mem_of_mem_take hp2)
      have h2 := loose_len (p.drop ((cutD 61 p).1.length + 1))
      rw [List.length_drop] at h2
      show (looseD _).length ≤ _
      omega
    have enL : n = (partsE s).map gA := by rw [en, List.take_of_length_le (by omega), eL]
    refine ⟨⟨by omega, hnA⟩, ?_⟩
    rintro ⟨t, e, _⟩ _ hT
    simp only at hT ⊢
    have hg := guess_par hs
    rw [← enL, ← hT] at hg
    refine ⟨fun h => ?_, fun h => ?_⟩
    · rwa [if_neg (fun h2 => by obtain ⟨rfl, rfl⟩ := Prod.mk.inj h2; exact h.elim (fun h => h rfl) (fun h => h rfl)), if_neg (fun h2 => by obtain ⟨rfl, rfl⟩ := Prod.mk.inj h2; exact h.elim (fun h => h rfl) (fun h => h rfl))] at hg
    · simp only [Bool.or_eq_false_iff, decide_eq_false_iff_not, Decidable.not_not] at h
      obtain ⟨rfl, rfl⟩ := h
      rwa [if_pos rfl, if_pos rfl] at hg
theorem h19 : c_r12_Parse.ok Tryd.prog GL 19 := con_ok (H := {joins := [23]}) (mkEnv_ok (gl := GL) (l := [(22, conSem c_r12_Parts), (40, conSem c_r12_Label), (28, conSem c_r12_Text)]) (q := []) (d := []) _ tyOk (by kernel_rfl) ⟨h22.call, h40.call, h28.call, trivial⟩ trivial trivial) (by kernel_rfl) (by kernel_rfl) (Eq.mp e19 k19)

end Go.Proofs.YtcaekpbmmbfeiaaDoor
end
