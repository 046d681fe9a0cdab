/- Texts of a verified walk, led together: Name3A, Name3W, Name4A, Name4W, Law12nA, Law12nW, Law12fA, Law12fW, Glok12A, Glok12W. -/
import Derived.Test.YtcaekpbmmbfeiaaDoorZW05
import Derived.Test.YtcaekpbmmbfeiaaDoorZV11
import Derived.Test.YtcaekpbmmbfeiaaDoorZV08
import Derived.Test.YtcaekpbmmbfeiaaDoorRows
set_option linter.unusedVariables false
set_option linter.unusedSimpArgs false
section
/- Contracts. -/
namespace Go.Proofs.YtcaekpbmmbfeiaaDoor
open Go Go.Vc Go.Pl Go.Proofs
def c_slices_Equal_int_int : Con := { args := [.dat (.sl I64), .dat (.sl I64)], res := [.dat .bool], pre := fun _ => True, post := fun x y => y.1 = decide (x.1 = x.2.1) }
def c_oid_Begins : Con := { args := [.dat (.sl I64), .dat (.sl I64)], res := [.dat .bool], pre := fun _ => True, post := fun x y => y.1 = decide (x.1.take x.2.1.length = x.2.1) }
def c_name_wrap : Con := { args := [.dat I64, .dat (.sl BY)], res := [.own 5 U8], pre := fun x => isTagD x.1 = true ∧ lenF x.2.1 ≤ 16777215, post := fun x y => y.1 = putB (x.1, x.2.1.flatten) }
def c_name_Encode : Con := { args := [.dat (.sl AT)], res := [.own 5 U8, .dat I64], pre := fun x => x.1.length ≤ 1000000000, post := fun x y => (y.1, y.2.1) = EncN x.1 }
def c_name_only : Con := { args := [.dat BY, .dat I64], res := [.dat BY, .dat .bool], pre := fun x => lenB x.1 ≤ 100000000, post := fun x y => y.1 = (oneD x.1).1.2 ∧ y.2.1 = (decide ((oneD x.1).2 = 0) && decide ((oneD x.1).1.1 = x.2.1)) }
def c_r12_put : Con := { args := [.dat I64, .dat BY], res := [.own 5 U8], pre := fun x => 0 ≤ x.1 ∧ x.1 ≤ 255 ∧ lenB x.2.1 ≤ 16777215, post := fun x y => y.1 = putB (x.1, x.2.1) }
def c_r12_Encode : Con := { args := [.dat (.sl AT)], res := [.own 5 U8, .dat I64], pre := fun x => x.1.length ≤ 1000000000 ∧ ∀ a ∈ x.1, a.2.length ≤ 100000000, post := fun x y => (y.1, y.2.1) = EncN x.1 }
def c_r12_inside : Con := { args := [.dat BY, .dat I64], res := [.own 76 ET, .dat .bool], pre := fun x => lenB x.1 ≤ 100000000, post := fun x y => (y.1, y.2.1) = insD x.1 x.2.1 }
def c_r12_guess : Con := { args := [.dat BY], res := [.own 56 AT], pre := fun x => lenB x.1 ≤ 100000000, post := fun x y => y.1 = guessD x.1 }
def c_r12_Decode : Con := { args := [.dat BY], res := [.own 56 AT, .dat I64], pre := fun x => lenB x.1 ≤ 100000000, post := fun x y => decQ x.1 y.1 y.2.1 = true }

end Go.Proofs.YtcaekpbmmbfeiaaDoor
end
section
/- Walks. -/
namespace Go.Proofs.YtcaekpbmmbfeiaaDoor
open Go Go.Vc Go.Pl Go.Proofs
set_option linter.unusedVariables false
set_option linter.unusedSimpArgs false
set_option maxRecDepth 20000
theorem adft_eq4 : Kd.dft (Kd.pair (Kd.int IntKind.i64) Kd.str) = adft := rfl
theorem edft_eq : Kd.dft (Kd.pair (Kd.int IntKind.i64) (Kd.sl (Kd.int IntKind.u8))) = edft := rfl
def t93 : Prop :=
  ∀ (x : List Int × List Int × Unit), Kd.wf (Kd.sl (Kd.int IntKind.i64)) x.fst ∧ Kd.wf (Kd.sl (Kd.int IntKind.i64)) x.snd.fst ∧ True → True → (decide ((↑(List.length x.fst) : Int) ≠
  (↑(List.length x.snd.fst) : Int)) = true → false = decide (x.fst = x.snd.fst)) ∧ (decide ((↑(List.length x.fst) : Int) ≠ (↑(List.length x.snd.fst) : Int)) = false → ∃ (I : Int × Bool × Unit
  → Unit → Prop), ∃ (μ : Int × Bool × Unit → Unit → Nat), ((↑(List.length x.fst) : Int) = (↑(List.length x.fst) : Int) ∧ Value.bool false = Value.bool false ∧ x.fst = x.fst ∧ x.snd.fst =
  x.snd.fst ∧ I ((0 : Int), false, ()) ()) ∧ ∀ (y : Int × Bool × Unit) (z : Unit), Kd.wf (Kd.int IntKind.i64) y.fst ∧ Kd.wf Kd.bool y.snd.fst ∧ True → True → I y z → (decide (y.fst <
  (↑(List.length x.fst) : Int)) = true → ((0 : Int) ≤ y.fst ∧ y.fst < (↑(List.length x.fst) : Int)) ∧ ((0 : Int) ≤ y.fst ∧ y.fst < (↑(List.length x.snd.fst) : Int)) ∧ (decide (List.getD x.fst
  (Int.toNat y.fst) (Kd.dft (Kd.int IntKind.i64)) ≠ List.getD x.snd.fst (Int.toNat y.fst) (Kd.dft (Kd.int IntKind.i64))) = true → false = decide (x.fst = x.snd.fst)) ∧ (decide (List.getD
  x.fst (Int.toNat y.fst) (Kd.dft (Kd.int IntKind.i64)) ≠ List.getD x.snd.fst (Int.toNat y.fst) (Kd.dft (Kd.int IntKind.i64))) = false → (↑(List.length x.fst) : Int) = (↑(List.length x.fst) :
  Int) ∧ Value.bool false = Value.bool false ∧ x.fst = x.fst ∧ x.snd.fst = x.snd.fst ∧ I (IntKind.wrap IntKind.i64 (y.fst + (1 : Int)), y.snd.fst, ()) () ∧ μ (IntKind.wrap IntKind.i64 (y.fst
  + (1 : Int)), y.snd.fst, ()) () < μ y z)) ∧ (decide (y.fst < (↑(List.length x.fst) : Int)) = false → true = decide (x.fst = x.snd.fst)))
theorem e93 : t93 = Con.vc c_slices_Equal_int_int GL (mkEnv ty [] [] [] [0, 1, 4, 5, 10, 12, 13, 14, 24]) {} Tryd.f93.ntmps Tryd.f93.results.toList (bodyOf Tryd.f93) := by kernel_rfl
theorem k93 : t93 := by
  unfold t93
  rintro ⟨a, b, _⟩ hx hp
  have hl : a.length ≤ 9223372036854775807 := hx.1.1
  try dsimp +instances only [dft_int, dft_sl, dft_str]
  simp only [true_and, and_true, eq_self_iff_true, implies_true, reduceCtorEq, false_implies, true_implies, decide_eq_true_eq, decide_eq_false_iff_not, beq_self_eq_true, Bool.not_eq_true', ne_eq, Decidable.not_not, List.nil_append, List.length_singleton, List.length_cons, List.length_nil, Nat.zero_add, Nat.add_zero, Nat.mul_one, and_self, beq_iff_eq, Bool.not_true, Bool.not_false, Bool.not_eq_false', Bool.cond_false_right, Bool.and_eq_true, imp_self, Bool.not_eq_true, Bool.cond_true_left, Bool.or_eq_true]
  refine ⟨fun h => (decide_eq_false (fun e => h (by rw [e]))).symm, fun h => ?_⟩
  refine ⟨fun y _ => 0 ≤ y.1 ∧ y.1 ≤ a.length ∧ a.take y.1.toNat = b.take y.1.toNat, fun y _ => ((a.length : Int) - y.1).toNat, ⟨Int.le_refl 0, by simp only; omega, rfl⟩, ?_⟩
  rintro ⟨i, q, _⟩ _ _ ⟨i0, i1, e⟩
  simp only at i0 i1 e ⊢
  refine ⟨fun hlt => ⟨⟨i0, hlt⟩, ⟨i0, by omega⟩, fun hne => ?_, fun he => ?_⟩, fun hge => ?_⟩
  · refine (decide_eq_false fun e2 => hne ?_).symm
    rw [e2]
  · rw [wrapM (i + 1) (by omega) (by omega)]
    refine ⟨⟨by omega, by omega, ?_⟩, by omega⟩
    rw [show (i + 1).toNat = i.toNat + 1 by omega, take_snoc a _ (by omega), take_snoc b _ (by omega), e, he]
  · rw [List.take_of_length_le (by omega), List.take_of_length_le (by omega)] at e
    exact (decide_eq_true e).symm
theorem h93 : c_slices_Equal_int_int.ok Tryd.prog GL 93 := con_ok (H := {}) (mkEnv_ok (gl := GL) (l := []) (q := []) (d := []) _ tyOk (by kernel_rfl) trivial trivial trivial) (by kernel_rfl) (by kernel_rfl) (Eq.mp e93 k93)

def t67 : Prop :=
  ∀ (x : List Int × List Int × Unit), Kd.wf (Kd.sl (Kd.int IntKind.i64)) x.fst ∧ Kd.wf (Kd.sl (Kd.int IntKind.i64)) x.snd.fst ∧ True → True → (decide ((↑(List.length x.snd.fst) : Int) ≤
  (↑(List.length x.fst) : Int)) = true → True) ∧ (decide ((↑(List.length x.snd.fst) : Int) ≤ (↑(List.length x.fst) : Int)) = true → True) ∧ (decide ((↑(List.length x.snd.fst) : Int) ≤
  (↑(List.length x.fst) : Int)) = true → (decide ((↑(List.length x.snd.fst) : Int) ≤ (↑(List.length x.fst) : Int)) == true) = true ∧ True) ∧ (decide ((↑(List.length x.snd.fst) : Int) ≤
  (↑(List.length x.fst) : Int)) = true → (decide ((↑(List.length x.snd.fst) : Int) ≤ (↑(List.length x.fst) : Int)) == true) = true ∧ (decide ((↑(List.length x.snd.fst) : Int) ≤ (↑(List.length
  x.fst) : Int)) == true) = true ∧ ((0 : Int) ≤ (↑(List.length x.snd.fst) : Int) ∧ (↑(List.length x.snd.fst) : Int) ≤ (↑(List.length x.fst) : Int)) ∧ True) ∧ (decide ((↑(List.length
  x.snd.fst) : Int) ≤ (↑(List.length x.fst) : Int)) = true → True) ∧ (decide ((↑(List.length x.snd.fst) : Int) ≤ (↑(List.length x.fst) : Int)) = true → (decide ((↑(List.length x.snd.fst) :
  Int) ≤ (↑(List.length x.fst) : Int)) == true) = true ∧ (decide ((↑(List.length x.snd.fst) : Int) ≤ (↑(List.length x.fst) : Int)) == true) = true ∧ True ∧ (∀ (y : Bool × Unit), Kd.wf Kd.bool
  y.fst ∧ True → y.fst = decide (List.take (Int.toNat (↑(List.length x.snd.fst) : Int)) x.fst = x.snd.fst) → y.fst = decide (List.take (List.length x.snd.fst) x.fst = x.snd.fst)) ∧ True) ∧
  (decide ((↑(List.length x.snd.fst) : Int) ≤ (↑(List.length x.fst) : Int)) = !true → false = decide (List.take (List.length x.snd.fst) x.fst = x.snd.fst))
theorem e67 : t67 = Con.vc c_oid_Begins GL (mkEnv ty [(93, conSem c_slices_Equal_int_int)] [] [] [0, 1, 4]) {} Tryd.f67.ntmps Tryd.f67.results.toList (bodyOf Tryd.f67) := by kernel_rfl
theorem k67 : t67 := by
  unfold t67
  rintro ⟨a, b, _⟩ hx hp
  try dsimp +instances only [dft_int, dft_sl, dft_str]
  simp only [true_and, and_true, eq_self_iff_true, implies_true, reduceCtorEq, false_implies, true_implies, decide_eq_true_eq, decide_eq_false_iff_not, beq_self_eq_true, Bool.not_eq_true', ne_eq, Decidable.not_not, List.nil_append, List.length_singleton, List.length_cons, List.length_nil, Nat.zero_add, Nat.add_zero, Nat.mul_one, and_self, beq_iff_eq, Bool.not_true, Bool.not_false, Bool.not_eq_false', Bool.cond_false_right, Bool.and_eq_true, imp_self, Bool.not_eq_true, Bool.cond_true_left, Bool.or_eq_true]
  refine ⟨fun h => ⟨h, h, by omega, h⟩, fun h => ⟨h, h, fun y _ e => ?_⟩, fun h => ?_⟩
  · rw [e, Int.toNat_natCast]
  · refine (decide_eq_false fun e => h ?_).symm
    have := congrArg List.length e
    rw [List.length_take] at this
    omega
theorem h67 : c_oid_Begins.ok Tryd.prog GL 67 := con_ok (H := {}) (mkEnv_ok (gl := GL) (l := [(93, conSem c_slices_Equal_int_int)]) (q := []) (d := []) _ tyOk (by kernel_rfl) ⟨h93.call, trivial⟩ trivial trivial) (by kernel_rfl) (by kernel_rfl) (Eq.mp e67 k67)

def t65 : Prop :=
  ∀ (x : List Int × Int × Unit), Kd.wf (Kd.sl (Kd.int IntKind.u8)) x.fst ∧ Kd.wf (Kd.int IntKind.i64) x.snd.fst ∧ True → lenB x.fst ≤ (100000000 : Nat) → lenB x.fst ≤ (1000000000 : Nat) ∧ (∀
  (y : (Int × List Int) × Int × Unit), Kd.wf (Kd.pair (Kd.int IntKind.i64) (Kd.sl (Kd.int IntKind.u8))) y.fst ∧ Kd.wf (Kd.int IntKind.i64) y.snd.fst ∧ True → (y.fst, y.snd.fst) = oneD x.fst →
  (2 : Nat) ≤ (65536 : Nat) ∧ (decide (y.snd.fst = (0 : Int)) = true → True) ∧ (decide (y.snd.fst = (0 : Int)) = true → (decide (y.snd.fst = (0 : Int)) == true) = true ∧ True) ∧ (decide
  (y.snd.fst = (0 : Int)) = true → True) ∧ (decide (y.snd.fst = (0 : Int)) = true → (decide (y.snd.fst = (0 : Int)) == true) = true ∧ (decide (y.snd.fst = (0 : Int)) == true) = true ∧ True) ∧
  (decide (y.snd.fst = (0 : Int)) = true → (decide (y.snd.fst = (0 : Int)) == true) = true) ∧ y.fst.snd = (oneD x.fst).fst.snd ∧ (bif decide (y.snd.fst = (0 : Int)) then decide (y.fst.fst =
  x.snd.fst) else false) = (decide ((oneD x.fst).snd = (0 : Int)) && decide ((oneD x.fst).fst.fst = x.snd.fst))) ∧ True
theorem e65 : t65 = Con.vc c_name_only GL (mkEnv ty [(42, conSem c_der_One)] [] [] [0, 1, 4, 5, 6, 7]) {} Tryd.f65.ntmps Tryd.f65.results.toList (bodyOf Tryd.f65) := by kernel_rfl
theorem k65 : t65 := by
  unfold t65
  rintro ⟨b, t, _⟩ hx hp
  have hp : b.length ≤ 100000000 := hp
  try dsimp +instances only [dft_int, dft_sl, dft_str]
  simp only [true_and, and_true, eq_self_iff_true, implies_true, reduceCtorEq, false_implies, true_implies, decide_eq_true_eq, decide_eq_false_iff_not, beq_self_eq_true, Bool.not_eq_true', ne_eq, Decidable.not_not, List.nil_append, List.length_singleton, List.length_cons, List.length_nil, Nat.zero_add, Nat.add_zero, Nat.mul_one, and_self, beq_iff_eq, Bool.not_true, Bool.not_false, Bool.not_eq_false', Bool.cond_false_right, Bool.and_eq_true, imp_self, Bool.not_eq_true, Bool.cond_true_left, Bool.or_eq_true]
  refine ⟨by rw [lenB]; omega, ?_⟩
  rintro ⟨x, e, _⟩ _ h
  simp only at h ⊢
  rw [← h]
  exact ⟨by decide, rfl, rfl⟩
theorem h65 : c_name_only.ok Tryd.prog GL 65 := con_ok (H := {}) (mkEnv_ok (gl := GL) (l := [(42, conSem c_der_One)]) (q := []) (d := []) _ tyOk (by kernel_rfl) ⟨h42.call, trivial⟩ trivial trivial) (by kernel_rfl) (by kernel_rfl) (Eq.mp e65 k65)

def t52 : Prop :=
  ∀ (x : Int × List Int × Unit), Kd.wf (Kd.int IntKind.i64) x.fst ∧ Kd.wf (Kd.sl (Kd.int IntKind.u8)) x.snd.fst ∧ True → (0 : Int) ≤ x.fst ∧ x.fst ≤ (255 : Int) ∧ lenB x.snd.fst ≤ (16777215 :
  Nat) → (lenB x.snd.fst ≤ (16777215 : Nat) ∧ (0 : Int) ≤ x.fst ∧ x.fst ≤ (255 : Int)) ∧ (∀ (y : List Int × Unit), Kd.wf (Kd.sl (Kd.int IntKind.u8)) y.fst ∧ True → y.fst = putB (x.fst,
  x.snd.fst) → y.fst = putB (x.fst, x.snd.fst)) ∧ True
theorem e52 : t52 = Con.vc c_r12_put GL (mkEnv ty [(76, conSem c_r01_Bytes)] [] [] [0, 1, 4]) {} Tryd.f52.ntmps Tryd.f52.results.toList (bodyOf Tryd.f52) := by kernel_rfl
theorem k52 : t52 := by
  unfold t52
  rintro ⟨t, c, _⟩ hx hp
  obtain ⟨h1, h2, h3⟩ := hp
  simp only at h1 h2 h3
  try dsimp +instances only [dft_int, dft_sl, dft_str]
  simp only [true_and, and_true, eq_self_iff_true, implies_true, reduceCtorEq, false_implies, true_implies, decide_eq_true_eq, decide_eq_false_iff_not, beq_self_eq_true, Bool.not_eq_true', ne_eq, Decidable.not_not, List.nil_append, List.length_singleton, List.length_cons, List.length_nil, Nat.zero_add, Nat.add_zero, Nat.mul_one, and_self, beq_iff_eq, Bool.not_true, Bool.not_false, Bool.not_eq_false', Bool.cond_false_right, Bool.and_eq_true, imp_self, Bool.not_eq_true, Bool.cond_true_left, Bool.or_eq_true]
  exact ⟨h3, h1, h2⟩
theorem h52 : c_r12_put.ok Tryd.prog GL 52 := con_ok (H := {}) (mkEnv_ok (gl := GL) (l := [(76, conSem c_r01_Bytes)]) (q := []) (d := []) _ tyOk (by kernel_rfl) ⟨h76.call, trivial⟩ trivial trivial) (by kernel_rfl) (by kernel_rfl) (Eq.mp e52 k52)

def t26 : Prop :=
  ∀ (x : List (Int × List Int) × Unit), Kd.wf (Kd.sl (Kd.pair (Kd.int IntKind.i64) Kd.str)) x.fst ∧ True → (List.length x.fst ≤ (1000000000 : Nat) ∧ ∀ (a : Int × List Int), a ∈ x.fst →
  List.length a.snd ≤ (100000000 : Nat)) → (List.length x.fst ≤ (1000000000 : Nat) ∧ ∀ (a : Int × List Int), a ∈ x.fst → List.length a.snd ≤ (100000000 : Nat)) ∧ (∀ (y : Bool × Unit), Kd.wf
  Kd.bool y.fst ∧ True → y.fst = mayN x.fst → ((!y.fst) = true → ([], (120 : Int)) = EncN x.fst) ∧ ((!y.fst) = false → ∃ (I : Int × Unit → List Int × Unit → Prop), ∃ (μ : Int × Unit → List
  Int × Unit → Nat), (Value.bool false = Value.bool false ∧ (0 : Int) = (0 : Int) ∧ Value.slice none (0 : Nat) (0 : Nat) = Value.slice none (0 : Nat) (0 : Nat) ∧ x.fst = x.fst ∧ I ((0 : Int),
  ()) ([], ())) ∧ ∀ (y : Int × Unit) (z : List Int × Unit), Kd.wf (Kd.int IntKind.i64) y.fst ∧ True → Kd.wf (Kd.sl (Kd.int IntKind.u8)) z.fst ∧ True → I y z → (decide (y.fst < (↑(List.length
  x.fst) : Int)) = true → ((0 : Int) ≤ y.fst ∧ y.fst < (↑(List.length x.fst) : Int)) ∧ True ∧ (∀ (y_1 : List Int × Int × Unit), Kd.wf (Kd.sl (Kd.int IntKind.u8)) y_1.fst ∧ Kd.wf (Kd.int
  IntKind.i64) y_1.snd.fst ∧ True → (y_1.fst, y_1.snd.fst) = EncO [(2 : Int), (5 : Int), (4 : Int), (List.getD x.fst (Int.toNat y.fst) (Kd.dft (Kd.pair (Kd.int IntKind.i64) Kd.str))).fst] →
  ((0 : Int) ≤ y.fst ∧ y.fst < (↑(List.length x.fst) : Int)) ∧ List.length (List.getD x.fst (Int.toNat y.fst) (Kd.dft (Kd.pair (Kd.int IntKind.i64) Kd.str))).snd ≤ (1000000000 : Nat) ∧ (∀
  (y_2 : Int × Int × Unit), Kd.wf (Kd.int IntKind.i64) y_2.fst ∧ Kd.wf (Kd.int IntKind.i64) y_2.snd.fst ∧ True → y_2.fst = (kindD (List.getD x.fst (Int.toNat y.fst) (Kd.dft (Kd.pair (Kd.int
  IntKind.i64) Kd.str))).snd).fst ∧ y_2.snd.fst = (kindD (List.getD x.fst (Int.toNat y.fst) (Kd.dft (Kd.pair (Kd.int IntKind.i64) Kd.str))).snd).snd → ((0 : Int) ≤ y.fst ∧ y.fst <
  (↑(List.length x.fst) : Int)) ∧ (((0 : Int) ≤ (6 : Int) ∧ (6 : Int) ≤ (255 : Int) ∧ lenB y_1.fst ≤ (16777215 : Nat)) ∧ (∀ (y_3 : List Int × Unit), Kd.wf (Kd.sl (Kd.int IntKind.u8)) y_3.fst
  ∧ True → y_3.fst = putB ((6 : Int), y_1.fst) → (((((0 : Int) ≤ y_2.fst ∧ y_2.fst ≤ (255 : Int) ∧ lenB (List.getD x.fst (Int.toNat y.fst) (Kd.dft (Kd.pair (Kd.int IntKind.i64) Kd.str))).snd
  ≤ (16777215 : Nat)) ∧ (∀ (y_4 : List Int × Unit), Kd.wf (Kd.sl (Kd.int IntKind.u8)) y_4.fst ∧ True → y_4.fst = putB (y_2.fst, (List.getD x.fst (Int.toNat y.fst) (Kd.dft (Kd.pair (Kd.int
  IntKind.i64) Kd.str))).snd) → ((0 : Nat) < (1 : Nat) ∧ (List.length y_3.fst + List.length y_4.fst) * (1 : Nat) ≤ (140737488355328 : Nat) ∧ List.length y_3.fst + List.length y_4.fst ≤
  (9223372036854775807 : Nat) ∧ ((0 : Int) ≤ (48 : Int) ∧ (48 : Int) ≤ (255 : Int) ∧ lenB (y_3.fst ++ y_4.fst) ≤ (16777215 : Nat)) ∧ (∀ (y_5 : List Int × Unit), Kd.wf (Kd.sl (Kd.int
  IntKind.u8)) y_5.fst ∧ True → y_5.fst = putB ((48 : Int), y_3.fst ++ y_4.fst) → ((0 : Int) ≤ (49 : Int) ∧ (49 : Int) ≤ (255 : Int) ∧ lenB y_5.fst ≤ (16777215 : Nat)) ∧ (∀ (y_6 : List Int ×
  Unit), Kd.wf (Kd.sl (Kd.int IntKind.u8)) y_6.fst ∧ True → y_6.fst = putB ((49 : Int), y_5.fst) → (0 : Nat) < (1 : Nat) ∧ (List.length z.fst + List.length y_6.fst) * (1 : Nat) ≤
  (140737488355328 : Nat) ∧ List.length z.fst + List.length y_6.fst ≤ (9223372036854775807 : Nat) ∧ Value.bool false = Value.bool false ∧ (0 : Int) = (0 : Int) ∧ Value.slice none (0 : Nat) (0
  : Nat) = Value.slice none (0 : Nat) (0 : Nat) ∧ x.fst = x.fst ∧ I (IntKind.wrap IntKind.i64 (y.fst + (1 : Int)), ()) (z.fst ++ y_6.fst, ()) ∧ μ (IntKind.wrap IntKind.i64 (y.fst + (1 :
  Int)), ()) (z.fst ++ y_6.fst, ()) < μ y z) ∧ True) ∧ True) ∧ True) ∧ True) ∧ True) ∧ True) ∧ True) ∧ True) ∧ ((((0 : Int) ≤ (6 : Int) ∧ (6 : Int) ≤ (255 : Int) ∧ lenB y_1.fst ≤ (16777215 :
  Nat)) ∧ (∀ (y_3 : List Int × Unit), Kd.wf (Kd.sl (Kd.int IntKind.u8)) y_3.fst ∧ True → y_3.fst = putB ((6 : Int), y_1.fst) → ((((0 : Int) ≤ y_2.fst ∧ y_2.fst ≤ (255 : Int) ∧ lenB (List.getD
  x.fst (Int.toNat y.fst) (Kd.dft (Kd.pair (Kd.int IntKind.i64) Kd.str))).snd ≤ (16777215 : Nat)) ∧ (∀ (y_4 : List Int × Unit), Kd.wf (Kd.sl (Kd.int IntKind.u8)) y_4.fst ∧ True → y_4.fst =
  putB (y_2.fst, (List.getD x.fst (Int.toNat y.fst) (Kd.dft (Kd.pair (Kd.int IntKind.i64) Kd.str))).snd) → ((0 : Nat) < (1 : Nat) ∧ (List.length y_3.fst + List.length y_4.fst) * (1 : Nat) ≤
  (140737488355328 : Nat) ∧ List.length y_3.fst + List.length y_4.fst ≤ (9223372036854775807 : Nat) ∧ ((0 : Int) ≤ (48 : Int) ∧ (48 : Int) ≤ (255 : Int) ∧ lenB (y_3.fst ++ y_4.fst) ≤
  (16777215 : Nat)) ∧ (∀ (y_5 : List Int × Unit), Kd.wf (Kd.sl (Kd.int IntKind.u8)) y_5.fst ∧ True → y_5.fst = putB ((48 : Int), y_3.fst ++ y_4.fst) → ((0 : Int) ≤ (49 : Int) ∧ (49 : Int) ≤
  (255 : Int) ∧ lenB y_5.fst ≤ (16777215 : Nat)) ∧ (∀ (y_6 : List Int × Unit), Kd.wf (Kd.sl (Kd.int IntKind.u8)) y_6.fst ∧ True → y_6.fst = putB ((49 : Int), y_5.fst) → (0 : Nat) < (1 : Nat)
  ∧ (List.length z.fst + List.length y_6.fst) * (1 : Nat) ≤ (140737488355328 : Nat) ∧ List.length z.fst + List.length y_6.fst ≤ (9223372036854775807 : Nat) ∧ Value.bool false = Value.bool
  false ∧ (0 : Int) = (0 : Int) ∧ Value.slice none (0 : Nat) (0 : Nat) = Value.slice none (0 : Nat) (0 : Nat) ∧ x.fst = x.fst ∧ I (IntKind.wrap IntKind.i64 (y.fst + (1 : Int)), ()) (z.fst ++
  y_6.fst, ()) ∧ μ (IntKind.wrap IntKind.i64 (y.fst + (1 : Int)), ()) (z.fst ++ y_6.fst, ()) < μ y z) ∧ True) ∧ True) ∧ True) ∧ True) ∧ True) ∧ True) ∧ True) ∧ ((((0 : Int) ≤ (6 : Int) ∧ (6 :
  Int) ≤ (255 : Int) ∧ lenB y_1.fst ≤ (16777215 : Nat)) ∧ (∀ (y_3 : List Int × Unit), Kd.wf (Kd.sl (Kd.int IntKind.u8)) y_3.fst ∧ True → y_3.fst = putB ((6 : Int), y_1.fst) → (((0 : Int) ≤
  y_2.fst ∧ y_2.fst ≤ (255 : Int) ∧ lenB (List.getD x.fst (Int.toNat y.fst) (Kd.dft (Kd.pair (Kd.int IntKind.i64) Kd.str))).snd ≤ (16777215 : Nat)) ∧ (∀ (y_4 : List Int × Unit), Kd.wf (Kd.sl
  (Kd.int IntKind.u8)) y_4.fst ∧ True → y_4.fst = putB (y_2.fst, (List.getD x.fst (Int.toNat y.fst) (Kd.dft (Kd.pair (Kd.int IntKind.i64) Kd.str))).snd) → ((0 : Nat) < (1 : Nat) ∧
  (List.length y_3.fst + List.length y_4.fst) * (1 : Nat) ≤ (140737488355328 : Nat) ∧ List.length y_3.fst + List.length y_4.fst ≤ (9223372036854775807 : Nat) ∧ ((0 : Int) ≤ (48 : Int) ∧ (48 :
  Int) ≤ (255 : Int) ∧ lenB (y_3.fst ++ y_4.fst) ≤ (16777215 : Nat)) ∧ (∀ (y_5 : List Int × Unit), Kd.wf (Kd.sl (Kd.int IntKind.u8)) y_5.fst ∧ True → y_5.fst = putB ((48 : Int), y_3.fst ++
  y_4.fst) → ((0 : Int) ≤ (49 : Int) ∧ (49 : Int) ≤ (255 : Int) ∧ lenB y_5.fst ≤ (16777215 : Nat)) ∧ (∀ (y_6 : List Int × Unit), Kd.wf (Kd.sl (Kd.int IntKind.u8)) y_6.fst ∧ True → y_6.fst =
  putB ((49 : Int), y_5.fst) → (0 : Nat) < (1 : Nat) ∧ (List.length z.fst + List.length y_6.fst) * (1 : Nat) ≤ (140737488355328 : Nat) ∧ List.length z.fst + List.length y_6.fst ≤
  (9223372036854775807 : Nat) ∧ Value.bool false = Value.bool false ∧ (0 : Int) = (0 : Int) ∧ Value.slice none (0 : Nat) (0 : Nat) = Value.slice none (0 : Nat) (0 : Nat) ∧ x.fst = x.fst ∧ I
  (IntKind.wrap IntKind.i64 (y.fst + (1 : Int)), ()) (z.fst ++ y_6.fst, ()) ∧ μ (IntKind.wrap IntKind.i64 (y.fst + (1 : Int)), ()) (z.fst ++ y_6.fst, ()) < μ y z) ∧ True) ∧ True) ∧ True) ∧
  True) ∧ True) ∧ True) ∧ True) ∧ True) ∧ True) ∧ True) ∧ True) ∧ (decide (y.fst < (↑(List.length x.fst) : Int)) = false → ((0 : Int) ≤ (48 : Int) ∧ (48 : Int) ≤ (255 : Int) ∧ lenB z.fst ≤
  (16777215 : Nat)) ∧ (∀ (y : List Int × Unit), Kd.wf (Kd.sl (Kd.int IntKind.u8)) y.fst ∧ True → y.fst = putB ((48 : Int), z.fst) → (y.fst, (0 : Int)) = EncN x.fst) ∧ True))) ∧ True
theorem e26 : t26 = Con.vc c_r12_Encode GL (mkEnv ty [(30, conSem c_r12_May), (50, conSem c_r03_Encode), (51, conSem c_r05_Kind), (52, conSem c_r12_put)] [] [] [0, 2, 3, 4, 5, 6, 8, 10, 13, 17]) {} Tryd.f26.ntmps Tryd.f26.results.toList (bodyOf Tryd.f26) := by kernel_rfl
theorem k26 : t26 := by
  unfold t26
  rintro ⟨n, _⟩ hx hp
  have hp2 := hp
  obtain ⟨h1, h2⟩ := hp2
  simp only at h1 h2
  try dsimp +instances only [dft_int, dft_sl, dft_str]
  simp only [true_and, and_true, eq_self_iff_true, implies_true, reduceCtorEq, false_implies, true_implies, decide_eq_true_eq, decide_eq_false_iff_not, beq_self_eq_true, Bool.not_eq_true', ne_eq, Decidable.not_not, List.nil_append, List.length_singleton, List.length_cons, List.length_nil, Nat.zero_add, Nat.add_zero, Nat.mul_one, and_self, beq_iff_eq, Bool.not_true, Bool.not_false, Bool.not_eq_false', Bool.cond_false_right, Bool.and_eq_true, imp_self, Bool.not_eq_true, Bool.cond_true_left, Bool.or_eq_true]
  simp only [adft_eq4]
  refine ⟨⟨h1, h2⟩, ?_⟩
  rintro ⟨m, _⟩ _ em
  simp only at em ⊢
  subst em
  refine ⟨fun h => by rw [EncN, if_neg (by rw [h]; decide)], fun h => ?_⟩
  obtain ⟨h16, hA⟩ := mayN_args h
  have hfl : ∀ i, ((n.take i).flatMap attrE).length ≤ 1200 := fun i => by
    have := flat_len (n.take i) fun a ha => hA a (List.mem_of_mem_take ha)
    have : (n.take i).length ≤ n.length := by rw [List.length_take]; omega
    omega
  refine ⟨fun y z => 0 ≤ y.1 ∧ y.1 ≤ n.length ∧ z.1 = (n.take y.1.toNat).flatMap attrE, fun y _ => ((n.length : Int) - y.1).toNat, ⟨Int.le_refl 0, by simp only; omega, rfl⟩, ?_⟩
  rintro ⟨i, _⟩ ⟨z, _⟩ _ _ ⟨i0, i1, ez⟩
  simp only at i0 i1 ez ⊢
  have hzl := hfl i.toNat
  rw [← ez] at hzl
  refine ⟨fun hlt => ⟨⟨i0, hlt⟩, ?_⟩, fun hge => ?_⟩
  · have hm := hA _ (mem_getD adft n i.toNat (by omega))
    have hst : (n.take (i.toNat + 1)).flatMap attrE = z ++ attrE (n.getD i.toNat adft) := by rw [take_snocA adft n _ (by omega), List.flatMap_append, ← ez]; simp
    generalize n.getD i.toNat adft = a at hm hst
    have hv := mayA_len hm
    have hk := (may_kind hm).2
    have hB := attrB_len hm
    have hE := attrE_len hm
    have p1 : (putB (6, [85, 4, a.1])).length = 5 := put_small (x := (6, [85, 4, a.1])) (by simp)
    have p2 : (putB (elK a)).length = 2 + a.2.length := put_small (x := elK a) (by show a.2.length < 128; omega)
    rintro ⟨o, f, _⟩ _ eo
    simp only at eo ⊢
    rw [enc_oid hm] at eo
    obtain ⟨rfl, rfl⟩ := Prod.mk.inj eo
    refine ⟨⟨i0, hlt⟩, by omega, ?_⟩
    rintro ⟨k, e, _⟩ _ ⟨ek, ee⟩
    simp only at ek ee ⊢
    refine ⟨⟨i0, hlt⟩, ⟨by decide, by decide, by simp [lenB]⟩, ?_⟩
    rintro ⟨w1, _⟩ _ e1
    simp only at e1 ⊢
    subst e1
    refine ⟨⟨by omega, by omega, by rw [lenB]; omega⟩, ?_⟩
    rintro ⟨w2, _⟩ _ e2
    simp only at e2 ⊢
    rw [ek] at e2
    have e2 : w2 = putB (elK a) := e2
    subst e2
    refine ⟨by decide, by omega, by omega, ⟨by decide, by decide, by rw [lenB, List.length_append]; omega⟩, ?_⟩
    rintro ⟨w3, _⟩ _ e3
    simp only at e3 ⊢
    have e3 : w3 = attrB a := e3
    subst e3
    refine ⟨⟨by decide, by decide, by rw [lenB]; omega⟩, ?_⟩
    rintro ⟨w4, _⟩ _ e4
    simp only at e4 ⊢
    have e4 : w4 = attrE a := e4
    subst e4
    rw [wrapK (i + 1) (by omega) (by omega)]
    refine ⟨by decide, by omega, by omega, ⟨by omega, by omega, ?_⟩, by omega⟩
    rw [show (i + 1).toNat = i.toNat + 1 by omega, hst]
  · have ezz : z = n.flatMap attrE := by rw [ez, List.take_of_length_le (by omega)]
    refine ⟨⟨by decide, by decide, by rw [lenB]; omega⟩, ?_⟩
    rintro ⟨w, _⟩ _ ew
    simp only at ew ⊢
    rw [ew, ezz, EncN, if_pos h]
    rfl
theorem h26 : c_r12_Encode.ok Tryd.prog GL 26 := con_ok (H := {}) (mkEnv_ok (gl := GL) (l := [(30, conSem c_r12_May), (50, conSem c_r03_Encode), (51, conSem c_r05_Kind), (52, conSem c_r12_put)]) (q := []) (d := []) _ tyOk (by kernel_rfl) ⟨h30.call, h50.call, h51.call, h52.call, trivial⟩ trivial trivial) (by kernel_rfl) (by kernel_rfl) (Eq.mp e26 k26)

def t69 : Prop :=
  ∀ (x : List Int × Int × Unit), Kd.wf (Kd.sl (Kd.int IntKind.u8)) x.fst ∧ Kd.wf (Kd.int IntKind.i64) x.snd.fst ∧ True → lenB x.fst ≤ (100000000 : Nat) → lenB x.fst ≤ (1000000000 : Nat) ∧ (∀
  (y : (Int × List Int) × Int × Unit), Kd.wf (Kd.pair (Kd.int IntKind.i64) (Kd.sl (Kd.int IntKind.u8))) y.fst ∧ Kd.wf (Kd.int IntKind.i64) y.snd.fst ∧ True → (y.fst, y.snd.fst) = oneD x.fst →
  (2 : Nat) ≤ (65536 : Nat) ∧ (decide (y.snd.fst ≠ (0 : Int)) = false → True) ∧ (decide (y.snd.fst ≠ (0 : Int)) = false → (decide (y.snd.fst ≠ (0 : Int)) == false) = true ∧ True) ∧ (decide
  (y.snd.fst ≠ (0 : Int)) = false → True) ∧ (decide (y.snd.fst ≠ (0 : Int)) = false → (decide (y.snd.fst ≠ (0 : Int)) == false) = true ∧ (decide (y.snd.fst ≠ (0 : Int)) == false) = true ∧
  True) ∧ (decide (y.snd.fst ≠ (0 : Int)) = false → (decide (y.snd.fst ≠ (0 : Int)) == false) = true) ∧ ((bif decide (y.snd.fst ≠ (0 : Int)) then true else decide (y.fst.fst ≠ x.snd.fst)) =
  true → ([], false) = insD x.fst x.snd.fst) ∧ ((bif decide (y.snd.fst ≠ (0 : Int)) then true else decide (y.fst.fst ≠ x.snd.fst)) = false → lenB y.fst.snd ≤ (1000000000 : Nat) ∧ (∀ (y_1 :
  List (Int × List Int) × Int × Int × Unit), Kd.wf (Kd.sl (Kd.pair (Kd.int IntKind.i64) (Kd.sl (Kd.int IntKind.u8)))) y_1.fst ∧ Kd.wf (Kd.int IntKind.i64) y_1.snd.fst ∧ Kd.wf (Kd.int
  IntKind.i64) y_1.snd.snd.fst ∧ True → (y_1.fst, y_1.snd.fst, y_1.snd.snd.fst) = allD y.fst.snd → (y_1.fst, decide (y_1.snd.snd.fst = (0 : Int))) = insD x.fst x.snd.fst) ∧ True)) ∧ True
theorem e69 : t69 = Con.vc c_r12_inside GL (mkEnv ty [(45, conSem c_r01_One), (95, conSem c_r01_All)] [] [] [0, 1, 4, 5, 6, 7, 8, 22]) {} Tryd.f69.ntmps Tryd.f69.results.toList (bodyOf Tryd.f69) := by kernel_rfl
theorem k69 : t69 := by
  unfold t69
  rintro ⟨b, t, _⟩ hx hp
  have hp : b.length ≤ 100000000 := hp
  try dsimp +instances only [dft_int, dft_sl, dft_str]
  simp only [true_and, and_true, eq_self_iff_true, implies_true, reduceCtorEq, false_implies, true_implies, decide_eq_true_eq, decide_eq_false_iff_not, beq_self_eq_true, Bool.not_eq_true', ne_eq, Decidable.not_not, List.nil_append, List.length_singleton, List.length_cons, List.length_nil, Nat.zero_add, Nat.add_zero, Nat.mul_one, and_self, beq_iff_eq, Bool.not_true, Bool.not_false, Bool.not_eq_false', Bool.cond_false_right, Bool.and_eq_true, imp_self, Bool.not_eq_true, Bool.cond_true_left, Bool.or_eq_true]
  have hol := oneD_len b
  refine ⟨by rw [lenB]; omega, ?_⟩
  rintro ⟨x, e, _⟩ _ h
  simp only at h ⊢
  rw [insD, ← h]
  rw [← h] at hol
  refine ⟨by decide, fun h2 => by rw [if_pos h2], fun h2 => ⟨by rw [lenB]; simp only at hol; omega, ?_⟩⟩
  simp only [Bool.or_eq_false_iff, decide_eq_false_iff_not] at h2
  rintro ⟨l, n, e2, _⟩ _ el
  simp only at el ⊢
  rw [if_neg (fun hh => hh.elim h2.1 h2.2), ← el]
theorem h69 : c_r12_inside.ok Tryd.prog GL 69 := con_ok (H := {}) (mkEnv_ok (gl := GL) (l := [(45, conSem c_r01_One), (95, conSem c_r01_All)]) (q := []) (d := []) _ tyOk (by kernel_rfl) ⟨h45.call, h95.call, trivial⟩ trivial trivial) (by kernel_rfl) (by kernel_rfl) (Eq.mp e69 k69)

def t46 : Prop :=
  ∀ (x : List Int × Unit), Kd.wf (Kd.sl (Kd.int IntKind.u8)) x.fst ∧ True → lenB x.fst ≤ (100000000 : Nat) → lenB x.fst ≤ (100000000 : Nat) ∧ (∀ (y : List (Int × List Int) × Bool × Unit),
  Kd.wf (Kd.sl (Kd.pair (Kd.int IntKind.i64) (Kd.sl (Kd.int IntKind.u8)))) y.fst ∧ Kd.wf Kd.bool y.snd.fst ∧ True → (y.fst, y.snd.fst) = insD x.fst (48 : Int) → ∃ (I : Int × Unit → List (Int
  × List Int) × List (Int × List Int) × Unit → Prop), ∃ (μ : Int × Unit → List (Int × List Int) × List (Int × List Int) × Unit → Nat), (x.fst = x.fst ∧ y.fst = y.fst ∧ I ((0 : Int), ()) ([],
  [], ())) ∧ ∀ (y_1 : Int × Unit) (z : List (Int × List Int) × List (Int × List Int) × Unit), Kd.wf (Kd.int IntKind.i64) y_1.fst ∧ True → Kd.wf (Kd.sl (Kd.pair (Kd.int IntKind.i64) Kd.str))
  z.fst ∧ Kd.wf (Kd.sl (Kd.pair (Kd.int IntKind.i64) Kd.str)) z.snd.fst ∧ True → I y_1 z → (decide (y_1.fst < (↑(List.length y.fst) : Int)) = true → ((0 : Int) ≤ y_1.fst ∧ y_1.fst <
  (↑(List.length y.fst) : Int)) ∧ lenB (List.getD y.fst (Int.toNat y_1.fst) (Kd.dft (Kd.pair (Kd.int IntKind.i64) (Kd.sl (Kd.int IntKind.u8))))).snd ≤ (100000000 : Nat) ∧ (∀ (y_2 : List (Int
  × List Int) × Bool × Unit), Kd.wf (Kd.sl (Kd.pair (Kd.int IntKind.i64) (Kd.sl (Kd.int IntKind.u8)))) y_2.fst ∧ Kd.wf Kd.bool y_2.snd.fst ∧ True → (y_2.fst, y_2.snd.fst) = insD (List.getD
  y.fst (Int.toNat y_1.fst) (Kd.dft (Kd.pair (Kd.int IntKind.i64) (Kd.sl (Kd.int IntKind.u8))))).snd (48 : Int) → ((!y_2.snd.fst) = false → True) ∧ ((!y_2.snd.fst) = false → ((!y_2.snd.fst)
  == false) = true ∧ True) ∧ ((!y_2.snd.fst) = false → ((!y_2.snd.fst) == false) = true ∧ True) ∧ ((!y_2.snd.fst) = false → ((!y_2.snd.fst) == false) = true) ∧ ((bif !y_2.snd.fst then true
  else decide ((↑(List.length y_2.fst) : Int) ≠ (2 : Int))) = false → True) ∧ ((bif !y_2.snd.fst then true else decide ((↑(List.length y_2.fst) : Int) ≠ (2 : Int))) = false → ((bif
  !y_2.snd.fst then true else decide ((↑(List.length y_2.fst) : Int) ≠ (2 : Int))) == false) = true ∧ ((0 : Int) ≤ (0 : Int) ∧ (0 : Int) < (↑(List.length y_2.fst) : Int)) ∧ True) ∧ ((bif
  !y_2.snd.fst then true else decide ((↑(List.length y_2.fst) : Int) ≠ (2 : Int))) = false → ((bif !y_2.snd.fst then true else decide ((↑(List.length y_2.fst) : Int) ≠ (2 : Int))) == false) =
  true ∧ True) ∧ ((bif !y_2.snd.fst then true else decide ((↑(List.length y_2.fst) : Int) ≠ (2 : Int))) = false → ((bif !y_2.snd.fst then true else decide ((↑(List.length y_2.fst) : Int) ≠ (2
  : Int))) == false) = true ∧ True) ∧ ((bif !y_2.snd.fst then true else decide ((↑(List.length y_2.fst) : Int) ≠ (2 : Int))) = false → ((bif !y_2.snd.fst then true else decide ((↑(List.length
  y_2.fst) : Int) ≠ (2 : Int))) == false) = true ∧ True) ∧ ((bif !y_2.snd.fst then true else decide ((↑(List.length y_2.fst) : Int) ≠ (2 : Int))) = false → ((bif !y_2.snd.fst then true else
  decide ((↑(List.length y_2.fst) : Int) ≠ (2 : Int))) == false) = true ∧ True) ∧ ((bif !y_2.snd.fst then true else decide ((↑(List.length y_2.fst) : Int) ≠ (2 : Int))) = false → ((bif
  !y_2.snd.fst then true else decide ((↑(List.length y_2.fst) : Int) ≠ (2 : Int))) == false) = true) ∧ ((bif bif !y_2.snd.fst then true else decide ((↑(List.length y_2.fst) : Int) ≠ (2 :
  Int)) then true else decide ((↑(List.length (List.getD y_2.fst (0 : Nat) (Kd.dft (Kd.pair (Kd.int IntKind.i64) (Kd.sl (Kd.int IntKind.u8))))).snd) : Int) ≠ (3 : Int))) = true → [] = guessD
  x.fst) ∧ ((bif bif !y_2.snd.fst then true else decide ((↑(List.length y_2.fst) : Int) ≠ (2 : Int)) then true else decide ((↑(List.length (List.getD y_2.fst (0 : Nat) (Kd.dft (Kd.pair
  (Kd.int IntKind.i64) (Kd.sl (Kd.int IntKind.u8))))).snd) : Int) ≠ (3 : Int))) = false → ((0 : Int) ≤ (0 : Int) ∧ (0 : Int) < (↑(List.length y_2.fst) : Int)) ∧ ((0 : Int) ≤ (1 : Int) ∧ (1 :
  Int) < (↑(List.length y_2.fst) : Int)) ∧ (((0 : Int) ≤ (2 : Int) ∧ (2 : Int) < (↑(List.length (List.getD y_2.fst (0 : Nat) (Kd.dft (Kd.pair (Kd.int IntKind.i64) (Kd.sl (Kd.int
  IntKind.u8))))).snd) : Int)) ∧ ((((((((0 : Nat) < (2 : Nat) ∧ (List.length z.fst + List.length [(IntKind.wrap IntKind.i64 (List.getD (List.getD y_2.fst (0 : Nat) (Kd.dft (Kd.pair (Kd.int
  IntKind.i64) (Kd.sl (Kd.int IntKind.u8))))).snd (2 : Nat) (Kd.dft (Kd.int IntKind.u8))), (List.getD y_2.fst (1 : Nat) (Kd.dft (Kd.pair (Kd.int IntKind.i64) (Kd.sl (Kd.int
  IntKind.u8))))).snd)]) * (24 : Nat) ≤ (140737488355328 : Nat) ∧ List.length z.fst + List.length [(IntKind.wrap IntKind.i64 (List.getD (List.getD y_2.fst (0 : Nat) (Kd.dft (Kd.pair (Kd.int
  IntKind.i64) (Kd.sl (Kd.int IntKind.u8))))).snd (2 : Nat) (Kd.dft (Kd.int IntKind.u8))), (List.getD y_2.fst (1 : Nat) (Kd.dft (Kd.pair (Kd.int IntKind.i64) (Kd.sl (Kd.int
  IntKind.u8))))).snd)] ≤ (9223372036854775807 : Nat) ∧ x.fst = x.fst ∧ y.fst = y.fst ∧ I (IntKind.wrap IntKind.i64 (y_1.fst + (1 : Int)), ()) (z.fst ++ [(IntKind.wrap IntKind.i64 (List.getD
  (List.getD y_2.fst (0 : Nat) (Kd.dft (Kd.pair (Kd.int IntKind.i64) (Kd.sl (Kd.int IntKind.u8))))).snd (2 : Nat) (Kd.dft (Kd.int IntKind.u8))), (List.getD y_2.fst (1 : Nat) (Kd.dft (Kd.pair
  (Kd.int IntKind.i64) (Kd.sl (Kd.int IntKind.u8))))).snd)], z.snd.fst, ()) ∧ μ (IntKind.wrap IntKind.i64 (y_1.fst + (1 : Int)), ()) (z.fst ++ [(IntKind.wrap IntKind.i64 (List.getD (List.getD
  y_2.fst (0 : Nat) (Kd.dft (Kd.pair (Kd.int IntKind.i64) (Kd.sl (Kd.int IntKind.u8))))).snd (2 : Nat) (Kd.dft (Kd.int IntKind.u8))), (List.getD y_2.fst (1 : Nat) (Kd.dft (Kd.pair (Kd.int
  IntKind.i64) (Kd.sl (Kd.int IntKind.u8))))).snd)], z.snd.fst, ()) < μ y_1 z) ∧ True) ∧ True) ∧ True) ∧ True) ∧ True) ∧ (((((((0 : Nat) < (2 : Nat) ∧ (List.length z.fst + List.length
  [(IntKind.wrap IntKind.i64 (List.getD (List.getD y_2.fst (0 : Nat) (Kd.dft (Kd.pair (Kd.int IntKind.i64) (Kd.sl (Kd.int IntKind.u8))))).snd (2 : Nat) (Kd.dft (Kd.int IntKind.u8))),
  (List.getD y_2.fst (1 : Nat) (Kd.dft (Kd.pair (Kd.int IntKind.i64) (Kd.sl (Kd.int IntKind.u8))))).snd)]) * (24 : Nat) ≤ (140737488355328 : Nat) ∧ List.length z.fst + List.length
  [(IntKind.wrap IntKind.i64 (List.getD (List.getD y_2.fst (0 : Nat) (Kd.dft (Kd.pair (Kd.int IntKind.i64) (Kd.sl (Kd.int IntKind.u8))))).snd (2 : Nat) (Kd.dft (Kd.int IntKind.u8))),
  (List.getD y_2.fst (1 : Nat) (Kd.dft (Kd.pair (Kd.int IntKind.i64) (Kd.sl (Kd.int IntKind.u8))))).snd)] ≤ (9223372036854775807 : Nat) ∧ x.fst = x.fst ∧ y.fst = y.fst ∧ I (IntKind.wrap
  IntKind.i64 (y_1.fst + (1 : Int)), ()) (z.fst ++ [(IntKind.wrap IntKind.i64 (List.getD (List.getD y_2.fst (0 : Nat) (Kd.dft (Kd.pair (Kd.int IntKind.i64) (Kd.sl (Kd.int IntKind.u8))))).snd
  (2 : Nat) (Kd.dft (Kd.int IntKind.u8))), (List.getD y_2.fst (1 : Nat) (Kd.dft (Kd.pair (Kd.int IntKind.i64) (Kd.sl (Kd.int IntKind.u8))))).snd)], z.snd.fst, ()) ∧ μ (IntKind.wrap
  IntKind.i64 (y_1.fst + (1 : Int)), ()) (z.fst ++ [(IntKind.wrap IntKind.i64 (List.getD (List.getD y_2.fst (0 : Nat) (Kd.dft (Kd.pair (Kd.int IntKind.i64) (Kd.sl (Kd.int IntKind.u8))))).snd
  (2 : Nat) (Kd.dft (Kd.int IntKind.u8))), (List.getD y_2.fst (1 : Nat) (Kd.dft (Kd.pair (Kd.int IntKind.i64) (Kd.sl (Kd.int IntKind.u8))))).snd)], z.snd.fst, ()) < μ y_1 z) ∧ True) ∧ True) ∧
  True) ∧ True) ∧ ((((((0 : Nat) < (2 : Nat) ∧ (List.length z.fst + List.length [(IntKind.wrap IntKind.i64 (List.getD (List.getD y_2.fst (0 : Nat) (Kd.dft (Kd.pair (Kd.int IntKind.i64) (Kd.sl
  (Kd.int IntKind.u8))))).snd (2 : Nat) (Kd.dft (Kd.int IntKind.u8))), (List.getD y_2.fst (1 : Nat) (Kd.dft (Kd.pair (Kd.int IntKind.i64) (Kd.sl (Kd.int IntKind.u8))))).snd)]) * (24 : Nat) ≤
  (140737488355328 : Nat) ∧ List.length z.fst + List.length [(IntKind.wrap IntKind.i64 (List.getD (List.getD y_2.fst (0 : Nat) (Kd.dft (Kd.pair (Kd.int IntKind.i64) (Kd.sl (Kd.int
  IntKind.u8))))).snd (2 : Nat) (Kd.dft (Kd.int IntKind.u8))), (List.getD y_2.fst (1 : Nat) (Kd.dft (Kd.pair (Kd.int IntKind.i64) (Kd.sl (Kd.int IntKind.u8))))).snd)] ≤ (9223372036854775807 :
  Nat) ∧ x.fst = x.fst ∧ y.fst = y.fst ∧ I (IntKind.wrap IntKind.i64 (y_1.fst + (1 : Int)), ()) (z.fst ++ [(IntKind.wrap IntKind.i64 (List.getD (List.getD y_2.fst (0 : Nat) (Kd.dft (Kd.pair
  (Kd.int IntKind.i64) (Kd.sl (Kd.int IntKind.u8))))).snd (2 : Nat) (Kd.dft (Kd.int IntKind.u8))), (List.getD y_2.fst (1 : Nat) (Kd.dft (Kd.pair (Kd.int IntKind.i64) (Kd.sl (Kd.int
  IntKind.u8))))).snd)], z.snd.fst, ()) ∧ μ (IntKind.wrap IntKind.i64 (y_1.fst + (1 : Int)), ()) (z.fst ++ [(IntKind.wrap IntKind.i64 (List.getD (List.getD y_2.fst (0 : Nat) (Kd.dft (Kd.pair
  (Kd.int IntKind.i64) (Kd.sl (Kd.int IntKind.u8))))).snd (2 : Nat) (Kd.dft (Kd.int IntKind.u8))), (List.getD y_2.fst (1 : Nat) (Kd.dft (Kd.pair (Kd.int IntKind.i64) (Kd.sl (Kd.int
  IntKind.u8))))).snd)], z.snd.fst, ()) < μ y_1 z) ∧ True) ∧ True) ∧ True) ∧ True) ∧ True) ∧ True) ∧ ((((((((0 : Nat) < (2 : Nat) ∧ (List.length z.fst + List.length [(IntKind.wrap IntKind.i64
  (List.getD (List.getD y_2.fst (0 : Nat) (Kd.dft (Kd.pair (Kd.int IntKind.i64) (Kd.sl (Kd.int IntKind.u8))))).snd (2 : Nat) (Kd.dft (Kd.int IntKind.u8))), (List.getD y_2.fst (1 : Nat)
  (Kd.dft (Kd.pair (Kd.int IntKind.i64) (Kd.sl (Kd.int IntKind.u8))))).snd)]) * (24 : Nat) ≤ (140737488355328 : Nat) ∧ List.length z.fst + List.length [(IntKind.wrap IntKind.i64 (List.getD
  (List.getD y_2.fst (0 : Nat) (Kd.dft (Kd.pair (Kd.int IntKind.i64) (Kd.sl (Kd.int IntKind.u8))))).snd (2 : Nat) (Kd.dft (Kd.int IntKind.u8))), (List.getD y_2.fst (1 : Nat) (Kd.dft (Kd.pair
  (Kd.int IntKind.i64) (Kd.sl (Kd.int IntKind.u8))))).snd)] ≤ (9223372036854775807 : Nat) ∧ x.fst = x.fst ∧ y.fst = y.fst ∧ I (IntKind.wrap IntKind.i64 (y_1.fst + (1 : Int)), ()) (z.fst ++
  [(IntKind.wrap IntKind.i64 (List.getD (List.getD y_2.fst (0 : Nat) (Kd.dft (Kd.pair (Kd.int IntKind.i64) (Kd.sl (Kd.int IntKind.u8))))).snd (2 : Nat) (Kd.dft (Kd.int IntKind.u8))),
  (List.getD y_2.fst (1 : Nat) (Kd.dft (Kd.pair (Kd.int IntKind.i64) (Kd.sl (Kd.int IntKind.u8))))).snd)], z.snd.fst, ()) ∧ μ (IntKind.wrap IntKind.i64 (y_1.fst + (1 : Int)), ()) (z.fst ++
  [(IntKind.wrap IntKind.i64 (List.getD (List.getD y_2.fst (0 : Nat) (Kd.dft (Kd.pair (Kd.int IntKind.i64) (Kd.sl (Kd.int IntKind.u8))))).snd (2 : Nat) (Kd.dft (Kd.int IntKind.u8))),
  (List.getD y_2.fst (1 : Nat) (Kd.dft (Kd.pair (Kd.int IntKind.i64) (Kd.sl (Kd.int IntKind.u8))))).snd)], z.snd.fst, ()) < μ y_1 z) ∧ True) ∧ True) ∧ True) ∧ True) ∧ ((((((0 : Nat) < (2 :
  Nat) ∧ (List.length z.fst + List.length [(IntKind.wrap IntKind.i64 (List.getD (List.getD y_2.fst (0 : Nat) (Kd.dft (Kd.pair (Kd.int IntKind.i64) (Kd.sl (Kd.int IntKind.u8))))).snd (2 : Nat)
  (Kd.dft (Kd.int IntKind.u8))), (List.getD y_2.fst (1 : Nat) (Kd.dft (Kd.pair (Kd.int IntKind.i64) (Kd.sl (Kd.int IntKind.u8))))).snd)]) * (24 : Nat) ≤ (140737488355328 : Nat) ∧ List.length
  z.fst + List.length [(IntKind.wrap IntKind.i64 (List.getD (List.getD y_2.fst (0 : Nat) (Kd.dft (Kd.pair (Kd.int IntKind.i64) (Kd.sl (Kd.int IntKind.u8))))).snd (2 : Nat) (Kd.dft (Kd.int
  IntKind.u8))), (List.getD y_2.fst (1 : Nat) (Kd.dft (Kd.pair (Kd.int IntKind.i64) (Kd.sl (Kd.int IntKind.u8))))).snd)] ≤ (9223372036854775807 : Nat) ∧ x.fst = x.fst ∧ y.fst = y.fst ∧ I
  (IntKind.wrap IntKind.i64 (y_1.fst + (1 : Int)), ()) (z.fst ++ [(IntKind.wrap IntKind.i64 (List.getD (List.getD y_2.fst (0 : Nat) (Kd.dft (Kd.pair (Kd.int IntKind.i64) (Kd.sl (Kd.int
  IntKind.u8))))).snd (2 : Nat) (Kd.dft (Kd.int IntKind.u8))), (List.getD y_2.fst (1 : Nat) (Kd.dft (Kd.pair (Kd.int IntKind.i64) (Kd.sl (Kd.int IntKind.u8))))).snd)], z.snd.fst, ()) ∧ μ
  (IntKind.wrap IntKind.i64 (y_1.fst + (1 : Int)), ()) (z.fst ++ [(IntKind.wrap IntKind.i64 (List.getD (List.getD y_2.fst (0 : Nat) (Kd.dft (Kd.pair (Kd.int IntKind.i64) (Kd.sl (Kd.int
  IntKind.u8))))).snd (2 : Nat) (Kd.dft (Kd.int IntKind.u8))), (List.getD y_2.fst (1 : Nat) (Kd.dft (Kd.pair (Kd.int IntKind.i64) (Kd.sl (Kd.int IntKind.u8))))).snd)], z.snd.fst, ()) < μ y_1
  z) ∧ True) ∧ True) ∧ True) ∧ True) ∧ True) ∧ (((((((0 : Nat) < (2 : Nat) ∧ (List.length z.fst + List.length [(IntKind.wrap IntKind.i64 (List.getD (List.getD y_2.fst (0 : Nat) (Kd.dft
  (Kd.pair (Kd.int IntKind.i64) (Kd.sl (Kd.int IntKind.u8))))).snd (2 : Nat) (Kd.dft (Kd.int IntKind.u8))), (List.getD y_2.fst (1 : Nat) (Kd.dft (Kd.pair (Kd.int IntKind.i64) (Kd.sl (Kd.int
  IntKind.u8))))).snd)]) * (24 : Nat) ≤ (140737488355328 : Nat) ∧ List.length z.fst + List.length [(IntKind.wrap IntKind.i64 (List.getD (List.getD y_2.fst (0 : Nat) (Kd.dft (Kd.pair (Kd.int
  IntKind.i64) (Kd.sl (Kd.int IntKind.u8))))).snd (2 : Nat) (Kd.dft (Kd.int IntKind.u8))), (List.getD y_2.fst (1 : Nat) (Kd.dft (Kd.pair (Kd.int IntKind.i64) (Kd.sl (Kd.int
  IntKind.u8))))).snd)] ≤ (9223372036854775807 : Nat) ∧ x.fst = x.fst ∧ y.fst = y.fst ∧ I (IntKind.wrap IntKind.i64 (y_1.fst + (1 : Int)), ()) (z.fst ++ [(IntKind.wrap IntKind.i64 (List.getD
  (List.getD y_2.fst (0 : Nat) (Kd.dft (Kd.pair (Kd.int IntKind.i64) (Kd.sl (Kd.int IntKind.u8))))).snd (2 : Nat) (Kd.dft (Kd.int IntKind.u8))), (List.getD y_2.fst (1 : Nat) (Kd.dft (Kd.pair
  (Kd.int IntKind.i64) (Kd.sl (Kd.int IntKind.u8))))).snd)], z.snd.fst, ()) ∧ μ (IntKind.wrap IntKind.i64 (y_1.fst + (1 : Int)), ()) (z.fst ++ [(IntKind.wrap IntKind.i64 (List.getD (List.getD
  y_2.fst (0 : Nat) (Kd.dft (Kd.pair (Kd.int IntKind.i64) (Kd.sl (Kd.int IntKind.u8))))).snd (2 : Nat) (Kd.dft (Kd.int IntKind.u8))), (List.getD y_2.fst (1 : Nat) (Kd.dft (Kd.pair (Kd.int
  IntKind.i64) (Kd.sl (Kd.int IntKind.u8))))).snd)], z.snd.fst, ()) < μ y_1 z) ∧ True) ∧ True) ∧ True) ∧ True) ∧ True) ∧ True) ∧ True) ∧ ((((0 : Int) ≤ (2 : Int) ∧ (2 : Int) < (↑(List.length
  (List.getD y_2.fst (0 : Nat) (Kd.dft (Kd.pair (Kd.int IntKind.i64) (Kd.sl (Kd.int IntKind.u8))))).snd) : Int)) ∧ (((((((0 : Nat) < (2 : Nat) ∧ (List.length z.fst + List.length
  [(IntKind.wrap IntKind.i64 (List.getD (List.getD y_2.fst (0 : Nat) (Kd.dft (Kd.pair (Kd.int IntKind.i64) (Kd.sl (Kd.int IntKind.u8))))).snd (2 : Nat) (Kd.dft (Kd.int IntKind.u8))),
  (List.getD y_2.fst (1 : Nat) (Kd.dft (Kd.pair (Kd.int IntKind.i64) (Kd.sl (Kd.int IntKind.u8))))).snd)]) * (24 : Nat) ≤ (140737488355328 : Nat) ∧ List.length z.fst + List.length
  [(IntKind.wrap IntKind.i64 (List.getD (List.getD y_2.fst (0 : Nat) (Kd.dft (Kd.pair (Kd.int IntKind.i64) (Kd.sl (Kd.int IntKind.u8))))).snd (2 : Nat) (Kd.dft (Kd.int IntKind.u8))),
  (List.getD y_2.fst (1 : Nat) (Kd.dft (Kd.pair (Kd.int IntKind.i64) (Kd.sl (Kd.int IntKind.u8))))).snd)] ≤ (9223372036854775807 : Nat) ∧ x.fst = x.fst ∧ y.fst = y.fst ∧ I (IntKind.wrap
  IntKind.i64 (y_1.fst + (1 : Int)), ()) (z.fst ++ [(IntKind.wrap IntKind.i64 (List.getD (List.getD y_2.fst (0 : Nat) (Kd.dft (Kd.pair (Kd.int IntKind.i64) (Kd.sl (Kd.int IntKind.u8))))).snd
  (2 : Nat) (Kd.dft (Kd.int IntKind.u8))), (List.getD y_2.fst (1 : Nat) (Kd.dft (Kd.pair (Kd.int IntKind.i64) (Kd.sl (Kd.int IntKind.u8))))).snd)], z.snd.fst, ()) ∧ μ (IntKind.wrap
  IntKind.i64 (y_1.fst + (1 : Int)), ()) (z.fst ++ [(IntKind.wrap IntKind.i64 (List.getD (List.getD y_2.fst (0 : Nat) (Kd.dft (Kd.pair (Kd.int IntKind.i64) (Kd.sl (Kd.int IntKind.u8))))).snd
  (2 : Nat) (Kd.dft (Kd.int IntKind.u8))), (List.getD y_2.fst (1 : Nat) (Kd.dft (Kd.pair (Kd.int IntKind.i64) (Kd.sl (Kd.int IntKind.u8))))).snd)], z.snd.fst, ()) < μ y_1 z) ∧ True) ∧ True) ∧
  True) ∧ True) ∧ ((((((0 : Nat) < (2 : Nat) ∧ (List.length z.fst + List.length [(IntKind.wrap IntKind.i64 (List.getD (List.getD y_2.fst (0 : Nat) (Kd.dft (Kd.pair (Kd.int IntKind.i64) (Kd.sl
  (Kd.int IntKind.u8))))).snd (2 : Nat) (Kd.dft (Kd.int IntKind.u8))), (List.getD y_2.fst (1 : Nat) (Kd.dft (Kd.pair (Kd.int IntKind.i64) (Kd.sl (Kd.int IntKind.u8))))).snd)]) * (24 : Nat) ≤
  (140737488355328 : Nat) ∧ List.length z.fst + List.length [(IntKind.wrap IntKind.i64 (List.getD (List.getD y_2.fst (0 : Nat) (Kd.dft (Kd.pair (Kd.int IntKind.i64) (Kd.sl (Kd.int
  IntKind.u8))))).snd (2 : Nat) (Kd.dft (Kd.int IntKind.u8))), (List.getD y_2.fst (1 : Nat) (Kd.dft (Kd.pair (Kd.int IntKind.i64) (Kd.sl (Kd.int IntKind.u8))))).snd)] ≤ (9223372036854775807 :
  Nat) ∧ x.fst = x.fst ∧ y.fst = y.fst ∧ I (IntKind.wrap IntKind.i64 (y_1.fst + (1 : Int)), ()) (z.fst ++ [(IntKind.wrap IntKind.i64 (List.getD (List.getD y_2.fst (0 : Nat) (Kd.dft (Kd.pair
  (Kd.int IntKind.i64) (Kd.sl (Kd.int IntKind.u8))))).snd (2 : Nat) (Kd.dft (Kd.int IntKind.u8))), (List.getD y_2.fst (1 : Nat) (Kd.dft (Kd.pair (Kd.int IntKind.i64) (Kd.sl (Kd.int
  IntKind.u8))))).snd)], z.snd.fst, ()) ∧ μ (IntKind.wrap IntKind.i64 (y_1.fst + (1 : Int)), ()) (z.fst ++ [(IntKind.wrap IntKind.i64 (List.getD (List.getD y_2.fst (0 : Nat) (Kd.dft (Kd.pair
  (Kd.int IntKind.i64) (Kd.sl (Kd.int IntKind.u8))))).snd (2 : Nat) (Kd.dft (Kd.int IntKind.u8))), (List.getD y_2.fst (1 : Nat) (Kd.dft (Kd.pair (Kd.int IntKind.i64) (Kd.sl (Kd.int
  IntKind.u8))))).snd)], z.snd.fst, ()) < μ y_1 z) ∧ True) ∧ True) ∧ True) ∧ True) ∧ True) ∧ (((((((0 : Nat) < (2 : Nat) ∧ (List.length z.fst + List.length [(IntKind.wrap IntKind.i64
  (List.getD (List.getD y_2.fst (0 : Nat) (Kd.dft (Kd.pair (Kd.int IntKind.i64) (Kd.sl (Kd.int IntKind.u8))))).snd (2 : Nat) (Kd.dft (Kd.int IntKind.u8))), (List.getD y_2.fst (1 : Nat)
  (Kd.dft (Kd.pair (Kd.int IntKind.i64) (Kd.sl (Kd.int IntKind.u8))))).snd)]) * (24 : Nat) ≤ (140737488355328 : Nat) ∧ List.length z.fst + List.length [(IntKind.wrap IntKind.i64 (List.getD
  (List.getD y_2.fst (0 : Nat) (Kd.dft (Kd.pair (Kd.int IntKind.i64) (Kd.sl (Kd.int IntKind.u8))))).snd (2 : Nat) (Kd.dft (Kd.int IntKind.u8))), (List.getD y_2.fst (1 : Nat) (Kd.dft (Kd.pair
  (Kd.int IntKind.i64) (Kd.sl (Kd.int IntKind.u8))))).snd)] ≤ (9223372036854775807 : Nat) ∧ x.fst = x.fst ∧ y.fst = y.fst ∧ I (IntKind.wrap IntKind.i64 (y_1.fst + (1 : Int)), ()) (z.fst ++
  [(IntKind.wrap IntKind.i64 (List.getD (List.getD y_2.fst (0 : Nat) (Kd.dft (Kd.pair (Kd.int IntKind.i64) (Kd.sl (Kd.int IntKind.u8))))).snd (2 : Nat) (Kd.dft (Kd.int IntKind.u8))),
  (List.getD y_2.fst (1 : Nat) (Kd.dft (Kd.pair (Kd.int IntKind.i64) (Kd.sl (Kd.int IntKind.u8))))).snd)], z.snd.fst, ()) ∧ μ (IntKind.wrap IntKind.i64 (y_1.fst + (1 : Int)), ()) (z.fst ++
  [(IntKind.wrap IntKind.i64 (List.getD (List.getD y_2.fst (0 : Nat) (Kd.dft (Kd.pair (Kd.int IntKind.i64) (Kd.sl (Kd.int IntKind.u8))))).snd (2 : Nat) (Kd.dft (Kd.int IntKind.u8))),
  (List.getD y_2.fst (1 : Nat) (Kd.dft (Kd.pair (Kd.int IntKind.i64) (Kd.sl (Kd.int IntKind.u8))))).snd)], z.snd.fst, ()) < μ y_1 z) ∧ True) ∧ True) ∧ True) ∧ True) ∧ True) ∧ True) ∧ ((((0 :
  Int) ≤ (2 : Int) ∧ (2 : Int) < (↑(List.length (List.getD y_2.fst (0 : Nat) (Kd.dft (Kd.pair (Kd.int IntKind.i64) (Kd.sl (Kd.int IntKind.u8))))).snd) : Int)) ∧ ((((((0 : Nat) < (2 : Nat) ∧
  (List.length z.fst + List.length [(IntKind.wrap IntKind.i64 (List.getD (List.getD y_2.fst (0 : Nat) (Kd.dft (Kd.pair (Kd.int IntKind.i64) (Kd.sl (Kd.int IntKind.u8))))).snd (2 : Nat)
  (Kd.dft (Kd.int IntKind.u8))), (List.getD y_2.fst (1 : Nat) (Kd.dft (Kd.pair (Kd.int IntKind.i64) (Kd.sl (Kd.int IntKind.u8))))).snd)]) * (24 : Nat) ≤ (140737488355328 : Nat) ∧ List.length
  z.fst + List.length [(IntKind.wrap IntKind.i64 (List.getD (List.getD y_2.fst (0 : Nat) (Kd.dft (Kd.pair (Kd.int IntKind.i64) (Kd.sl (Kd.int IntKind.u8))))).snd (2 : Nat) (Kd.dft (Kd.int
  IntKind.u8))), (List.getD y_2.fst (1 : Nat) (Kd.dft (Kd.pair (Kd.int IntKind.i64) (Kd.sl (Kd.int IntKind.u8))))).snd)] ≤ (9223372036854775807 : Nat) ∧ x.fst = x.fst ∧ y.fst = y.fst ∧ I
  (IntKind.wrap IntKind.i64 (y_1.fst + (1 : Int)), ()) (z.fst ++ [(IntKind.wrap IntKind.i64 (List.getD (List.getD y_2.fst (0 : Nat) (Kd.dft (Kd.pair (Kd.int IntKind.i64) (Kd.sl (Kd.int
  IntKind.u8))))).snd (2 : Nat) (Kd.dft (Kd.int IntKind.u8))), (List.getD y_2.fst (1 : Nat) (Kd.dft (Kd.pair (Kd.int IntKind.i64) (Kd.sl (Kd.int IntKind.u8))))).snd)], z.snd.fst, ()) ∧ μ
  (IntKind.wrap IntKind.i64 (y_1.fst + (1 : Int)), ()) (z.fst ++ [(IntKind.wrap IntKind.i64 (List.getD (List.getD y_2.fst (0 : Nat) (Kd.dft (Kd.pair (Kd.int IntKind.i64) (Kd.sl (Kd.int
  IntKind.u8))))).snd (2 : Nat) (Kd.dft (Kd.int IntKind.u8))), (List.getD y_2.fst (1 : Nat) (Kd.dft (Kd.pair (Kd.int IntKind.i64) (Kd.sl (Kd.int IntKind.u8))))).snd)], z.snd.fst, ()) < μ y_1
  z) ∧ True) ∧ True) ∧ True) ∧ True) ∧ True) ∧ True) ∧ True) ∧ True)) ∧ True) ∧ (decide (y_1.fst < (↑(List.length y.fst) : Int)) = false → z.fst = guessD x.fst)) ∧ True
theorem e46 : t46 = Con.vc c_r12_guess GL (mkEnv ty [(69, conSem c_r12_inside)] [] [] [0, 2, 3, 5, 6, 7, 8, 17, 43]) {} Tryd.f46.ntmps Tryd.f46.results.toList (bodyOf Tryd.f46) := by kernel_rfl
theorem k46 : t46 := by
  unfold t46
  rintro ⟨b, _⟩ hx hp
  have hp : b.length ≤ 100000000 := hp
  try dsimp +instances only [dft_int, dft_sl, dft_str]
  simp only [true_and, and_true, eq_self_iff_true, implies_true, reduceCtorEq, false_implies, true_implies, decide_eq_true_eq, decide_eq_false_iff_not, beq_self_eq_true, Bool.not_eq_true', ne_eq, Decidable.not_not, List.nil_append, List.length_singleton, List.length_cons, List.length_nil, Nat.zero_add, Nat.add_zero, Nat.mul_one, and_self, beq_iff_eq, Bool.not_true, Bool.not_false, Bool.not_eq_false', Bool.cond_false_right, Bool.and_eq_true, imp_self, Bool.not_eq_true, Bool.cond_true_left, Bool.or_eq_true]
  simp only [edft_eq]
  obtain ⟨hil, hie⟩ := insD_len b 48
  refine ⟨hp, ?_⟩
  rintro ⟨l, ok, _⟩ hwl h
  simp only at h ⊢
  have hl : (insD b 48).1 = l := by rw [← h]
  rw [hl] at hil hie
  refine ⟨fun y z => 0 ≤ y.1 ∧ y.1 ≤ l.length ∧ (z.1 : List AttrT).length ≤ y.1 ∧ gAll l = (gAll (l.drop y.1.toNat)).map (z.1 ++ ·), fun y _ => ((l.length : Int) - y.1).toNat, ⟨Int.le_refl 0, by simp only; omega, by simp, by simp⟩, ?_⟩
  rintro ⟨i, _⟩ ⟨acc, v, _⟩ _ _ ⟨i0, i1, hal, hg⟩
  simp only at i0 i1 hal hg ⊢
  refine ⟨fun hlt => ?_, fun hge => ?_⟩
  · have hmem := mem_getD edft l i.toNat (by omega)
    rw [drop_consA edft l i.toNat (by omega)] at hg
    generalize l.getD i.toNat edft = x at hg hmem
    have hxl := hie x hmem
    refine ⟨⟨i0, hlt⟩, by rw [lenB]; omega, ?_⟩
    rintro ⟨two, ok2, _⟩ hw2 h2
    simp only at h2 ⊢
    have q1 : (insD x.2 48).1 = two := by rw [← h2]
    have q2 : (insD x.2 48).2 = ok2 := by rw [← h2]
    refine ⟨fun g => ⟨g, by decide, ?_⟩, fun g => ?_, fun g => ?_⟩
    · simp only [Bool.or_eq_false_iff, decide_eq_false_iff_not, Decidable.not_not] at g
      omega
    · have hn : gOne x = none := by
        rw [gOne, q1, q2, if_neg]
        rintro ⟨g1, g2, g3⟩
        rcases g with (g | g) | g
        · rw [g1] at g; cases g
        · omega
        · omega
      rw [gAll_bad hn] at hg
      rw [guessD, hl, hg]
      rfl
    · rw [Bool.or_eq_false_iff, Bool.or_eq_false_iff, Bool.not_eq_false'] at g
      obtain ⟨⟨g1, g2⟩, g3⟩ := g
      have g2 := dec_not g2
      have g3 := dec_not g3
      have hs : gOne x = some ((two.getD 0 edft).2.getD 2 0, (two.getD 1 edft).2) := by
        rw [gOne, q1, q2, if_pos ⟨g1, by omega, by omega⟩]
      rw [gAll_step hs] at hg
      have hw0 : Kd.wf BY (two.getD 0 edft).2 := by
        have := hw2.1.2 _ (mem_getD edft two 0 (by omega))
        exact this.2
      have hb2 := bys_get (sl_bys hw0) 2
      rw [wrapK (i + 1) (by omega) (by omega), wrapK ((two.getD 0 edft).2.getD 2 0) (by omega) (by omega)]
      refine ⟨⟨by decide, by omega⟩, ⟨by decide, by omega⟩, ⟨by decide, by omega⟩, by decide, by omega, by omega, ⟨by omega, by omega, by rw [List.length_append, List.length_singleton]; omega, ?_⟩, by omega⟩
      rw [hg, show i.toNat + 1 = (i + 1).toNat by omega]
      cases gAll (l.drop (i + 1).toNat) <;> simp
  · rw [List.drop_of_length_le (by omega)] at hg
    rw [guessD, hl, hg]
    simp [gAll]
theorem h46 : c_r12_guess.ok Tryd.prog GL 46 := con_ok (H := {}) (mkEnv_ok (gl := GL) (l := [(69, conSem c_r12_inside)]) (q := []) (d := []) _ tyOk (by kernel_rfl) ⟨h69.call, trivial⟩ trivial trivial) (by kernel_rfl) (by kernel_rfl) (Eq.mp e46 k46)

def t24 : Prop :=
  ∀ (x : List Int × Unit), Kd.wf (Kd.sl (Kd.int IntKind.u8)) x.fst ∧ True → lenB x.fst ≤ (100000000 : Nat) → lenB x.fst ≤ (1000000000 : Nat) ∧ (∀ (y : (Int × List Int) × Int × Unit), Kd.wf
  (Kd.pair (Kd.int IntKind.i64) (Kd.sl (Kd.int IntKind.u8))) y.fst ∧ Kd.wf (Kd.int IntKind.i64) y.snd.fst ∧ True → (y.fst, y.snd.fst) = oneD x.fst → (2 : Nat) ≤ (65536 : Nat) ∧ (decide
  (y.snd.fst ≠ (0 : Int)) = true → decQ x.fst [] y.snd.fst = true) ∧ (decide (y.snd.fst ≠ (0 : Int)) = false → lenB x.fst ≤ (100000000 : Nat) ∧ (∀ (y : List (Int × List Int) × Unit), Kd.wf
  (Kd.sl (Kd.pair (Kd.int IntKind.i64) Kd.str)) y.fst ∧ True → y.fst = guessD x.fst → (List.length y.fst ≤ (1000000000 : Nat) ∧ ∀ (a : Int × List Int), a ∈ y.fst → List.length a.snd ≤
  (100000000 : Nat)) ∧ (∀ (y_1 : List Int × Int × Unit), Kd.wf (Kd.sl (Kd.int IntKind.u8)) y_1.fst ∧ Kd.wf (Kd.int IntKind.i64) y_1.snd.fst ∧ True → (y_1.fst, y_1.snd.fst) = EncN y.fst →
  (decide (y_1.snd.fst ≠ (0 : Int)) = false → True) ∧ (decide (y_1.snd.fst ≠ (0 : Int)) = false → (decide (y_1.snd.fst ≠ (0 : Int)) == false) = true ∧ True) ∧ (decide (y_1.snd.fst ≠ (0 :
  Int)) = false → True) ∧ (decide (y_1.snd.fst ≠ (0 : Int)) = false → (decide (y_1.snd.fst ≠ (0 : Int)) == false) = true ∧ True) ∧ (decide (y_1.snd.fst ≠ (0 : Int)) = false → (decide
  (y_1.snd.fst ≠ (0 : Int)) == false) = true ∧ (decide (y_1.snd.fst ≠ (0 : Int)) == false) = true ∧ True) ∧ (decide (y_1.snd.fst ≠ (0 : Int)) = false → (decide (y_1.snd.fst ≠ (0 : Int)) ==
  false) = true) ∧ ((bif decide (y_1.snd.fst ≠ (0 : Int)) then true else decide (y_1.fst ≠ x.fst)) = true → decQ x.fst [] (120 : Int) = true) ∧ ((bif decide (y_1.snd.fst ≠ (0 : Int)) then
  true else decide (y_1.fst ≠ x.fst)) = false → decQ x.fst y.fst (0 : Int) = true)) ∧ True) ∧ True)) ∧ True
theorem e24 : t24 = Con.vc c_r12_Decode GL (mkEnv ty [(45, conSem c_r01_One), (46, conSem c_r12_guess), (26, conSem c_r12_Encode)] [] [] [0, 2, 3, 5, 6, 7, 14, 31]) {} Tryd.f24.ntmps Tryd.f24.results.toList (bodyOf Tryd.f24) := by kernel_rfl
theorem k24 : t24 := by
  unfold t24
  rintro ⟨b, _⟩ hx hp
  have hp : b.length ≤ 100000000 := hp
  try dsimp +instances only [dft_int, dft_sl, dft_str]
  simp only [true_and, and_true, eq_self_iff_true, implies_true, reduceCtorEq, false_implies, true_implies, decide_eq_true_eq, decide_eq_false_iff_not, beq_self_eq_true, Bool.not_eq_true', ne_eq, Decidable.not_not, List.nil_append, List.length_singleton, List.length_cons, List.length_nil, Nat.zero_add, Nat.add_zero, Nat.mul_one, and_self, beq_iff_eq, Bool.not_true, Bool.not_false, Bool.not_eq_false', Bool.cond_false_right, Bool.and_eq_true, imp_self, Bool.not_eq_true, Bool.cond_true_left, Bool.or_eq_true]
  obtain ⟨hgl, hge⟩ := guess_len b
  refine ⟨by rw [lenB]; omega, ?_⟩
  rintro ⟨x, e, _⟩ _ h
  simp only at h ⊢
  have o3 : (oneD b).2 = e := by rw [← h]
  refine ⟨by decide, fun h2 => decQ_iff.2 (.inl ⟨by rw [o3]; exact h2, o3.symm, rfl⟩), fun h2 => ⟨hp, ?_⟩⟩
  subst h2
  rintro ⟨n, _⟩ _ en
  simp only at en ⊢
  subst en
  refine ⟨⟨by omega, fun a ha => by have := hge a ha; omega⟩, ?_⟩
  rintro ⟨c, e2, _⟩ _ ec
  simp only at ec ⊢
  have hg := guess_dec o3
  rw [← ec] at hg
  refine ⟨fun h => ?_, fun h => ?_⟩
  · rwa [if_neg (fun h2 => by obtain ⟨rfl, rfl⟩ := Prod.mk.inj h2; exact h.elim (fun h => h rfl) (fun h => h rfl)), if_neg (fun h2 => by obtain ⟨rfl, rfl⟩ := Prod.mk.inj h2; exact h.elim (fun h => h rfl) (fun h => h rfl))] at hg
  · simp only [Bool.or_eq_false_iff, decide_eq_false_iff_not, Decidable.not_not] at h
    obtain ⟨rfl, rfl⟩ := h
    rwa [if_pos rfl, if_pos rfl] at hg
theorem h24 : c_r12_Decode.ok Tryd.prog GL 24 := con_ok (H := {}) (mkEnv_ok (gl := GL) (l := [(45, conSem c_r01_One), (46, conSem c_r12_guess), (26, conSem c_r12_Encode)]) (q := []) (d := []) _ tyOk (by kernel_rfl) ⟨h45.call, h46.call, h26.call, trivial⟩ trivial trivial) (by kernel_rfl) (by kernel_rfl) (Eq.mp e24 k24)

end Go.Proofs.YtcaekpbmmbfeiaaDoor
end
section
/- Contracts. -/
namespace Go.Proofs.YtcaekpbmmbfeiaaDoor
open Go Go.Vc Go.Pl Go.Proofs
def c_name_attr : Con := { args := [.dat BY], res := [.dat AT, .dat .bool], pre := fun x => lenB x.1 ≤ 100000000, post := fun x y => attrQ x.1 y.1 y.2.1 = true }
def c_name_Decode : Con := { args := [.dat BY], res := [.own 56 AT, .dat I64], pre := fun x => lenB x.1 ≤ 100000000, post := fun x y => decQ x.1 y.1 y.2.1 = true }

end Go.Proofs.YtcaekpbmmbfeiaaDoor
end
section
/- Walks. -/
namespace Go.Proofs.YtcaekpbmmbfeiaaDoor
open Go Go.Vc Go.Pl Go.Proofs
set_option linter.unusedVariables false
set_option linter.unusedSimpArgs false
set_option maxRecDepth 20000
def t44 : Prop :=
  ∀ (x : List Int × Unit), Kd.wf (Kd.sl (Kd.int IntKind.u8)) x.fst ∧ True → lenB x.fst ≤ (100000000 : Nat) → (2 : Nat) ≤ (65536 : Nat) ∧ lenB x.fst ≤ (100000000 : Nat) ∧ (∀ (y : List Int ×
  Bool × Unit), Kd.wf (Kd.sl (Kd.int IntKind.u8)) y.fst ∧ Kd.wf Kd.bool y.snd.fst ∧ True → y.fst = (oneD x.fst).fst.snd ∧ y.snd.fst = (decide ((oneD x.fst).snd = (0 : Int)) && decide ((oneD
  x.fst).fst.fst = (48 : Int))) → lenB y.fst ≤ (1000000000 : Nat) ∧ (∀ (y_1 : List (Int × List Int) × Int × Int × Unit), Kd.wf (Kd.sl (Kd.pair (Kd.int IntKind.i64) (Kd.sl (Kd.int
  IntKind.u8)))) y_1.fst ∧ Kd.wf (Kd.int IntKind.i64) y_1.snd.fst ∧ Kd.wf (Kd.int IntKind.i64) y_1.snd.snd.fst ∧ True → (y_1.fst, y_1.snd.fst, y_1.snd.snd.fst) = allD y.fst → ((!y.snd.fst) =
  false → True) ∧ ((!y.snd.fst) = false → ((!y.snd.fst) == false) = true ∧ True) ∧ ((!y.snd.fst) = false → ((!y.snd.fst) == false) = true) ∧ ((bif !y.snd.fst then true else decide
  (y_1.snd.snd.fst ≠ (0 : Int))) = false → True) ∧ ((bif !y.snd.fst then true else decide (y_1.snd.snd.fst ≠ (0 : Int))) = false → ((bif !y.snd.fst then true else decide (y_1.snd.snd.fst ≠ (0
  : Int))) == false) = true ∧ True) ∧ ((bif !y.snd.fst then true else decide (y_1.snd.snd.fst ≠ (0 : Int))) = false → ((bif !y.snd.fst then true else decide (y_1.snd.snd.fst ≠ (0 : Int))) ==
  false) = true ∧ True) ∧ ((bif !y.snd.fst then true else decide (y_1.snd.snd.fst ≠ (0 : Int))) = false → ((bif !y.snd.fst then true else decide (y_1.snd.snd.fst ≠ (0 : Int))) == false) =
  true) ∧ ((bif bif !y.snd.fst then true else decide (y_1.snd.snd.fst ≠ (0 : Int)) then true else decide ((↑(List.length y_1.fst) : Int) ≠ (2 : Int))) = false → True) ∧ ((bif bif !y.snd.fst
  then true else decide (y_1.snd.snd.fst ≠ (0 : Int)) then true else decide ((↑(List.length y_1.fst) : Int) ≠ (2 : Int))) = false → ((bif bif !y.snd.fst then true else decide (y_1.snd.snd.fst
  ≠ (0 : Int)) then true else decide ((↑(List.length y_1.fst) : Int) ≠ (2 : Int))) == false) = true ∧ ((0 : Int) ≤ (0 : Int) ∧ (0 : Int) < (↑(List.length y_1.fst) : Int)) ∧ True) ∧ ((bif bif
  !y.snd.fst then true else decide (y_1.snd.snd.fst ≠ (0 : Int)) then true else decide ((↑(List.length y_1.fst) : Int) ≠ (2 : Int))) = false → ((bif bif !y.snd.fst then true else decide
  (y_1.snd.snd.fst ≠ (0 : Int)) then true else decide ((↑(List.length y_1.fst) : Int) ≠ (2 : Int))) == false) = true ∧ True) ∧ ((bif bif !y.snd.fst then true else decide (y_1.snd.snd.fst ≠ (0
  : Int)) then true else decide ((↑(List.length y_1.fst) : Int) ≠ (2 : Int))) = false → ((bif bif !y.snd.fst then true else decide (y_1.snd.snd.fst ≠ (0 : Int)) then true else decide
  ((↑(List.length y_1.fst) : Int) ≠ (2 : Int))) == false) = true ∧ True) ∧ ((bif bif !y.snd.fst then true else decide (y_1.snd.snd.fst ≠ (0 : Int)) then true else decide ((↑(List.length
  y_1.fst) : Int) ≠ (2 : Int))) = false → ((bif bif !y.snd.fst then true else decide (y_1.snd.snd.fst ≠ (0 : Int)) then true else decide ((↑(List.length y_1.fst) : Int) ≠ (2 : Int))) ==
  false) = true ∧ True) ∧ ((bif bif !y.snd.fst then true else decide (y_1.snd.snd.fst ≠ (0 : Int)) then true else decide ((↑(List.length y_1.fst) : Int) ≠ (2 : Int))) = false → ((bif bif
  !y.snd.fst then true else decide (y_1.snd.snd.fst ≠ (0 : Int)) then true else decide ((↑(List.length y_1.fst) : Int) ≠ (2 : Int))) == false) = true) ∧ ((bif bif bif !y.snd.fst then true
  else decide (y_1.snd.snd.fst ≠ (0 : Int)) then true else decide ((↑(List.length y_1.fst) : Int) ≠ (2 : Int)) then true else decide ((List.getD y_1.fst (0 : Nat) (Kd.dft (Kd.pair (Kd.int
  IntKind.i64) (Kd.sl (Kd.int IntKind.u8))))).fst ≠ (6 : Int))) = true → attrQ x.fst ((0 : Int), bs { data := #[] }) false = true) ∧ ((bif bif bif !y.snd.fst then true else decide
  (y_1.snd.snd.fst ≠ (0 : Int)) then true else decide ((↑(List.length y_1.fst) : Int) ≠ (2 : Int)) then true else decide ((List.getD y_1.fst (0 : Nat) (Kd.dft (Kd.pair (Kd.int IntKind.i64)
  (Kd.sl (Kd.int IntKind.u8))))).fst ≠ (6 : Int))) = false → ((0 : Int) ≤ (0 : Int) ∧ (0 : Int) < (↑(List.length y_1.fst) : Int)) ∧ True ∧ (∀ (y_2 : List Int × Int × Unit), Kd.wf (Kd.sl
  (Kd.int IntKind.i64)) y_2.fst ∧ Kd.wf (Kd.int IntKind.i64) y_2.snd.fst ∧ True → (y_2.fst, y_2.snd.fst) = DecD (List.getD y_1.fst (0 : Nat) (Kd.dft (Kd.pair (Kd.int IntKind.i64) (Kd.sl
  (Kd.int IntKind.u8))))).snd → ∃ (J : Bool × Unit → (Int × List Int × Unit) × List (Int × List Int) × List Int × Unit → Prop), ((decide (y_2.snd.fst ≠ (0 : Int)) = false → True) ∧ (decide
  (y_2.snd.fst ≠ (0 : Int)) = false → (decide (y_2.snd.fst ≠ (0 : Int)) == false) = true ∧ True) ∧ (decide (y_2.snd.fst ≠ (0 : Int)) = false → (decide (y_2.snd.fst ≠ (0 : Int)) == false) =
  true ∧ True) ∧ (decide (y_2.snd.fst ≠ (0 : Int)) = false → (decide (y_2.snd.fst ≠ (0 : Int)) == false) = true) ∧ ((bif decide (y_2.snd.fst ≠ (0 : Int)) then true else decide ((↑(List.length
  y_2.fst) : Int) ≠ (4 : Int))) = false → True) ∧ ((bif decide (y_2.snd.fst ≠ (0 : Int)) then true else decide ((↑(List.length y_2.fst) : Int) ≠ (4 : Int))) = false → ((bif decide
  (y_2.snd.fst ≠ (0 : Int)) then true else decide ((↑(List.length y_2.fst) : Int) ≠ (4 : Int))) == false) = true ∧ True ∧ (∀ (y_3 : Bool × Unit), Kd.wf Kd.bool y_3.fst ∧ True → y_3.fst =
  decide (List.take (List.length [(2 : Int), (5 : Int), (4 : Int)]) y_2.fst = [(2 : Int), (5 : Int), (4 : Int)]) → ((!y_3.fst) = true → attrQ x.fst ((0 : Int), bs { data := #[] }) false =
  true) ∧ ((!y_3.fst) = false → y_2.snd.fst = y_2.snd.fst ∧ Value.bool false = Value.bool false ∧ y.snd.fst = y.snd.fst ∧ y.fst = y.fst ∧ x.fst = x.fst ∧ J (false, ()) (((0 : Int), bs { data
  := #[] }, ()), y_1.fst, y_2.fst, ()))) ∧ True) ∧ ((bif decide (y_2.snd.fst ≠ (0 : Int)) then true else decide ((↑(List.length y_2.fst) : Int) ≠ (4 : Int))) = !false → attrQ x.fst ((0 :
  Int), bs { data := #[] }) false = true)) ∧ ∀ (u : Bool × Unit) (z : (Int × List Int × Unit) × List (Int × List Int) × List Int × Unit), Kd.wf Kd.bool u.fst ∧ True → (Kd.wf (Kd.int
  IntKind.i64) z.fst.fst ∧ Kd.wf Kd.str z.fst.snd.fst ∧ True) ∧ Kd.wf (Kd.sl (Kd.pair (Kd.int IntKind.i64) (Kd.sl (Kd.int IntKind.u8)))) z.snd.fst ∧ Kd.wf (Kd.sl (Kd.int IntKind.i64))
  z.snd.snd.fst ∧ True → J u z → ∃ (J : Unit → (Int × List Int × Unit) × List (Int × List Int) × List Int × (Int × List Int × Unit) × Unit → Prop), (((0 : Int) ≤ (3 : Int) ∧ (3 : Int) <
  (↑(List.length z.snd.snd.fst) : Int)) ∧ ((0 : Int) ≤ (1 : Int) ∧ (1 : Int) < (↑(List.length z.snd.fst) : Int)) ∧ ((((((2 : Nat) ≤ (65536 : Nat) ∧ (y_2.snd.fst = y_2.snd.fst ∧ Value.bool
  false = Value.bool false ∧ y.snd.fst = y.snd.fst ∧ y.fst = y.fst ∧ u.fst = u.fst ∧ x.fst = x.fst ∧ J () ((z.fst.fst, z.fst.snd.fst, ()), z.snd.fst, z.snd.snd.fst, (List.getD z.snd.snd.fst
  (3 : Nat) (Kd.dft (Kd.int IntKind.i64)), (List.getD z.snd.fst (1 : Nat) (Kd.dft (Kd.pair (Kd.int IntKind.i64) (Kd.sl (Kd.int IntKind.u8))))).snd, ()), ())) ∧ True) ∧ True) ∧ ((2 : Nat) ≤
  (65536 : Nat) ∧ ((y_2.snd.fst = y_2.snd.fst ∧ Value.bool false = Value.bool false ∧ y.snd.fst = y.snd.fst ∧ y.fst = y.fst ∧ u.fst = u.fst ∧ x.fst = x.fst ∧ J () ((z.fst.fst, z.fst.snd.fst,
  ()), z.snd.fst, z.snd.snd.fst, (List.getD z.snd.snd.fst (3 : Nat) (Kd.dft (Kd.int IntKind.i64)), (List.getD z.snd.fst (1 : Nat) (Kd.dft (Kd.pair (Kd.int IntKind.i64) (Kd.sl (Kd.int
  IntKind.u8))))).snd, ()), ())) ∧ True) ∧ True) ∧ True) ∧ ((2 : Nat) ≤ (65536 : Nat) ∧ (((y_2.snd.fst = y_2.snd.fst ∧ Value.bool false = Value.bool false ∧ y.snd.fst = y.snd.fst ∧ y.fst =
  y.fst ∧ u.fst = u.fst ∧ x.fst = x.fst ∧ J () ((z.fst.fst, z.fst.snd.fst, ()), z.snd.fst, z.snd.snd.fst, (List.getD z.snd.snd.fst (3 : Nat) (Kd.dft (Kd.int IntKind.i64)), (List.getD
  z.snd.fst (1 : Nat) (Kd.dft (Kd.pair (Kd.int IntKind.i64) (Kd.sl (Kd.int IntKind.u8))))).snd, ()), ())) ∧ True) ∧ True) ∧ True) ∧ True) ∧ ((2 : Nat) ≤ (65536 : Nat) ∧ ((((y_2.snd.fst =
  y_2.snd.fst ∧ Value.bool false = Value.bool false ∧ y.snd.fst = y.snd.fst ∧ y.fst = y.fst ∧ u.fst = u.fst ∧ x.fst = x.fst ∧ J () ((z.fst.fst, z.fst.snd.fst, ()), z.snd.fst, z.snd.snd.fst,
  (List.getD z.snd.snd.fst (3 : Nat) (Kd.dft (Kd.int IntKind.i64)), (List.getD z.snd.fst (1 : Nat) (Kd.dft (Kd.pair (Kd.int IntKind.i64) (Kd.sl (Kd.int IntKind.u8))))).snd, ()), ())) ∧ True)
  ∧ True) ∧ True) ∧ True) ∧ True) ∧ ((((((2 : Nat) ≤ (65536 : Nat) ∧ (y_2.snd.fst = y_2.snd.fst ∧ Value.bool false = Value.bool false ∧ y.snd.fst = y.snd.fst ∧ y.fst = y.fst ∧ u.fst = u.fst ∧
  x.fst = x.fst ∧ J () ((z.fst.fst, z.fst.snd.fst, ()), z.snd.fst, z.snd.snd.fst, (List.getD z.snd.snd.fst (3 : Nat) (Kd.dft (Kd.int IntKind.i64)), (List.getD z.snd.fst (1 : Nat) (Kd.dft
  (Kd.pair (Kd.int IntKind.i64) (Kd.sl (Kd.int IntKind.u8))))).snd, ()), ())) ∧ True) ∧ True) ∧ ((2 : Nat) ≤ (65536 : Nat) ∧ ((y_2.snd.fst = y_2.snd.fst ∧ Value.bool false = Value.bool false
  ∧ y.snd.fst = y.snd.fst ∧ y.fst = y.fst ∧ u.fst = u.fst ∧ x.fst = x.fst ∧ J () ((z.fst.fst, z.fst.snd.fst, ()), z.snd.fst, z.snd.snd.fst, (List.getD z.snd.snd.fst (3 : Nat) (Kd.dft (Kd.int
  IntKind.i64)), (List.getD z.snd.fst (1 : Nat) (Kd.dft (Kd.pair (Kd.int IntKind.i64) (Kd.sl (Kd.int IntKind.u8))))).snd, ()), ())) ∧ True) ∧ True) ∧ True) ∧ ((2 : Nat) ≤ (65536 : Nat) ∧
  (((y_2.snd.fst = y_2.snd.fst ∧ Value.bool false = Value.bool false ∧ y.snd.fst = y.snd.fst ∧ y.fst = y.fst ∧ u.fst = u.fst ∧ x.fst = x.fst ∧ J () ((z.fst.fst, z.fst.snd.fst, ()), z.snd.fst,
  z.snd.snd.fst, (List.getD z.snd.snd.fst (3 : Nat) (Kd.dft (Kd.int IntKind.i64)), (List.getD z.snd.fst (1 : Nat) (Kd.dft (Kd.pair (Kd.int IntKind.i64) (Kd.sl (Kd.int IntKind.u8))))).snd,
  ()), ())) ∧ True) ∧ True) ∧ True) ∧ True) ∧ (((((2 : Nat) ≤ (65536 : Nat) ∧ (y_2.snd.fst = y_2.snd.fst ∧ Value.bool false = Value.bool false ∧ y.snd.fst = y.snd.fst ∧ y.fst = y.fst ∧ u.fst
  = u.fst ∧ x.fst = x.fst ∧ J () ((z.fst.fst, z.fst.snd.fst, ()), z.snd.fst, z.snd.snd.fst, (List.getD z.snd.snd.fst (3 : Nat) (Kd.dft (Kd.int IntKind.i64)), (List.getD z.snd.fst (1 : Nat)
  (Kd.dft (Kd.pair (Kd.int IntKind.i64) (Kd.sl (Kd.int IntKind.u8))))).snd, ()), ())) ∧ True) ∧ True) ∧ ((2 : Nat) ≤ (65536 : Nat) ∧ ((y_2.snd.fst = y_2.snd.fst ∧ Value.bool false =
  Value.bool false ∧ y.snd.fst = y.snd.fst ∧ y.fst = y.fst ∧ u.fst = u.fst ∧ x.fst = x.fst ∧ J () ((z.fst.fst, z.fst.snd.fst, ()), z.snd.fst, z.snd.snd.fst, (List.getD z.snd.snd.fst (3 : Nat)
  (Kd.dft (Kd.int IntKind.i64)), (List.getD z.snd.fst (1 : Nat) (Kd.dft (Kd.pair (Kd.int IntKind.i64) (Kd.sl (Kd.int IntKind.u8))))).snd, ()), ())) ∧ True) ∧ True) ∧ True) ∧ ((2 : Nat) ≤
  (65536 : Nat) ∧ (((y_2.snd.fst = y_2.snd.fst ∧ Value.bool false = Value.bool false ∧ y.snd.fst = y.snd.fst ∧ y.fst = y.fst ∧ u.fst = u.fst ∧ x.fst = x.fst ∧ J () ((z.fst.fst, z.fst.snd.fst,
  ()), z.snd.fst, z.snd.snd.fst, (List.getD z.snd.snd.fst (3 : Nat) (Kd.dft (Kd.int IntKind.i64)), (List.getD z.snd.fst (1 : Nat) (Kd.dft (Kd.pair (Kd.int IntKind.i64) (Kd.sl (Kd.int
  IntKind.u8))))).snd, ()), ())) ∧ True) ∧ True) ∧ True) ∧ True) ∧ ((2 : Nat) ≤ (65536 : Nat) ∧ ((((y_2.snd.fst = y_2.snd.fst ∧ Value.bool false = Value.bool false ∧ y.snd.fst = y.snd.fst ∧
  y.fst = y.fst ∧ u.fst = u.fst ∧ x.fst = x.fst ∧ J () ((z.fst.fst, z.fst.snd.fst, ()), z.snd.fst, z.snd.snd.fst, (List.getD z.snd.snd.fst (3 : Nat) (Kd.dft (Kd.int IntKind.i64)), (List.getD
  z.snd.fst (1 : Nat) (Kd.dft (Kd.pair (Kd.int IntKind.i64) (Kd.sl (Kd.int IntKind.u8))))).snd, ()), ())) ∧ True) ∧ True) ∧ True) ∧ ((((y_2.snd.fst = y_2.snd.fst ∧ Value.bool false =
  Value.bool false ∧ y.snd.fst = y.snd.fst ∧ y.fst = y.fst ∧ u.fst = u.fst ∧ x.fst = x.fst ∧ J () ((z.fst.fst, z.fst.snd.fst, ()), z.snd.fst, z.snd.snd.fst, (List.getD z.snd.snd.fst (3 : Nat)
  (Kd.dft (Kd.int IntKind.i64)), (List.getD z.snd.fst (1 : Nat) (Kd.dft (Kd.pair (Kd.int IntKind.i64) (Kd.sl (Kd.int IntKind.u8))))).snd, ()), ())) ∧ True) ∧ True) ∧ True) ∧ True) ∧ True) ∧
  ((2 : Nat) ≤ (65536 : Nat) ∧ (((((y_2.snd.fst = y_2.snd.fst ∧ Value.bool false = Value.bool false ∧ y.snd.fst = y.snd.fst ∧ y.fst = y.fst ∧ u.fst = u.fst ∧ x.fst = x.fst ∧ J () ((z.fst.fst,
  z.fst.snd.fst, ()), z.snd.fst, z.snd.snd.fst, (List.getD z.snd.snd.fst (3 : Nat) (Kd.dft (Kd.int IntKind.i64)), (List.getD z.snd.fst (1 : Nat) (Kd.dft (Kd.pair (Kd.int IntKind.i64) (Kd.sl
  (Kd.int IntKind.u8))))).snd, ()), ())) ∧ True) ∧ True) ∧ True) ∧ True) ∧ (((((y_2.snd.fst = y_2.snd.fst ∧ Value.bool false = Value.bool false ∧ y.snd.fst = y.snd.fst ∧ y.fst = y.fst ∧ u.fst
  = u.fst ∧ x.fst = x.fst ∧ J () ((z.fst.fst, z.fst.snd.fst, ()), z.snd.fst, z.snd.snd.fst, (List.getD z.snd.snd.fst (3 : Nat) (Kd.dft (Kd.int IntKind.i64)), (List.getD z.snd.fst (1 : Nat)
  (Kd.dft (Kd.pair (Kd.int IntKind.i64) (Kd.sl (Kd.int IntKind.u8))))).snd, ()), ())) ∧ True) ∧ True) ∧ True) ∧ ((((y_2.snd.fst = y_2.snd.fst ∧ Value.bool false = Value.bool false ∧ y.snd.fst
  = y.snd.fst ∧ y.fst = y.fst ∧ u.fst = u.fst ∧ x.fst = x.fst ∧ J () ((z.fst.fst, z.fst.snd.fst, ()), z.snd.fst, z.snd.snd.fst, (List.getD z.snd.snd.fst (3 : Nat) (Kd.dft (Kd.int
  IntKind.i64)), (List.getD z.snd.fst (1 : Nat) (Kd.dft (Kd.pair (Kd.int IntKind.i64) (Kd.sl (Kd.int IntKind.u8))))).snd, ()), ())) ∧ True) ∧ True) ∧ True) ∧ True) ∧ True) ∧ True) ∧ ∀ (u :
  Unit) (z : (Int × List Int × Unit) × List (Int × List Int) × List Int × (Int × List Int × Unit) × Unit), True → (Kd.wf (Kd.int IntKind.i64) z.fst.fst ∧ Kd.wf Kd.str z.fst.snd.fst ∧ True) ∧
  Kd.wf (Kd.sl (Kd.pair (Kd.int IntKind.i64) (Kd.sl (Kd.int IntKind.u8)))) z.snd.fst ∧ Kd.wf (Kd.sl (Kd.int IntKind.i64)) z.snd.snd.fst ∧ (Kd.wf (Kd.int IntKind.i64) z.snd.snd.snd.fst.fst ∧
  Kd.wf Kd.str z.snd.snd.snd.fst.snd.fst ∧ True) ∧ True → J u z → True ∧ (∀ (y : Int × Int × Unit), Kd.wf (Kd.int IntKind.i64) y.fst ∧ Kd.wf (Kd.int IntKind.i64) y.snd.fst ∧ True → y.fst =
  (kindD z.snd.snd.snd.fst.snd.fst).fst ∧ y.snd.fst = (kindD z.snd.snd.snd.fst.snd.fst).snd → (decide (y.snd.fst = (0 : Int)) = true → (decide (y.snd.fst = (0 : Int)) == true) = true ∧ ((0 :
  Int) ≤ (1 : Int) ∧ (1 : Int) < (↑(List.length z.snd.fst) : Int)) ∧ True) ∧ (decide (y.snd.fst = (0 : Int)) = true → (decide (y.snd.fst = (0 : Int)) == true) = true ∧ True) ∧ (((decide
  (y.snd.fst = (0 : Int)) = true → (decide (y.snd.fst = (0 : Int)) == true) = true ∧ True) ∧ ((decide (y.snd.fst = (0 : Int)) = true → (decide (y.snd.fst = (0 : Int)) == true) = true ∧
  (decide (y.snd.fst = (0 : Int)) == true) = true ∧ True) ∧ ((decide (y.snd.fst = (0 : Int)) = true → (decide (y.snd.fst = (0 : Int)) == true) = true) ∧ (((bif decide (y.snd.fst = (0 : Int))
  then decide (y.fst = (List.getD z.snd.fst (1 : Nat) (Kd.dft (Kd.pair (Kd.int IntKind.i64) (Kd.sl (Kd.int IntKind.u8))))).fst) else false) = true → True) ∧ (((bif decide (y.snd.fst = (0 :
  Int)) then decide (y.fst = (List.getD z.snd.fst (1 : Nat) (Kd.dft (Kd.pair (Kd.int IntKind.i64) (Kd.sl (Kd.int IntKind.u8))))).fst) else false) = true → ((bif decide (y.snd.fst = (0 : Int))
  then decide (y.fst = (List.getD z.snd.fst (1 : Nat) (Kd.dft (Kd.pair (Kd.int IntKind.i64) (Kd.sl (Kd.int IntKind.u8))))).fst) else false) == true) = true ∧ True ∧ (∀ (y : Bool × Unit),
  Kd.wf Kd.bool y.fst ∧ True → y.fst = mayA (z.snd.snd.snd.fst.fst, z.snd.snd.snd.fst.snd.fst) → (attrQ x.fst (z.snd.snd.snd.fst.fst, z.snd.snd.snd.fst.snd.fst) y.fst = true ∧ True) ∧ (attrQ
  x.fst (z.snd.snd.snd.fst.fst, z.snd.snd.snd.fst.snd.fst) y.fst = true ∧ True) ∧ True) ∧ True) ∧ ((bif decide (y.snd.fst = (0 : Int)) then decide (y.fst = (List.getD z.snd.fst (1 : Nat)
  (Kd.dft (Kd.pair (Kd.int IntKind.i64) (Kd.sl (Kd.int IntKind.u8))))).fst) else false) = !true → (attrQ x.fst (z.snd.snd.snd.fst.fst, z.snd.snd.snd.fst.snd.fst) false = true ∧ True) ∧ (attrQ
  x.fst (z.snd.snd.snd.fst.fst, z.snd.snd.snd.fst.snd.fst) false = true ∧ True) ∧ True)) ∧ True) ∧ True) ∧ True) ∧ True) ∧ True) ∧ ((decide (y.snd.fst = (0 : Int)) = true → (decide (y.snd.fst
  = (0 : Int)) == true) = true ∧ True) ∧ (((decide (y.snd.fst = (0 : Int)) = true → (decide (y.snd.fst = (0 : Int)) == true) = true ∧ (decide (y.snd.fst = (0 : Int)) == true) = true ∧ True) ∧
  ((decide (y.snd.fst = (0 : Int)) = true → (decide (y.snd.fst = (0 : Int)) == true) = true) ∧ (((bif decide (y.snd.fst = (0 : Int)) then decide (y.fst = (List.getD z.snd.fst (1 : Nat)
  (Kd.dft (Kd.pair (Kd.int IntKind.i64) (Kd.sl (Kd.int IntKind.u8))))).fst) else false) = true → True) ∧ (((bif decide (y.snd.fst = (0 : Int)) then decide (y.fst = (List.getD z.snd.fst (1 :
  Nat) (Kd.dft (Kd.pair (Kd.int IntKind.i64) (Kd.sl (Kd.int IntKind.u8))))).fst) else false) = true → ((bif decide (y.snd.fst = (0 : Int)) then decide (y.fst = (List.getD z.snd.fst (1 : Nat)
  (Kd.dft (Kd.pair (Kd.int IntKind.i64) (Kd.sl (Kd.int IntKind.u8))))).fst) else false) == true) = true ∧ True ∧ (∀ (y : Bool × Unit), Kd.wf Kd.bool y.fst ∧ True → y.fst = mayA
  (z.snd.snd.snd.fst.fst, z.snd.snd.snd.fst.snd.fst) → (attrQ x.fst (z.snd.snd.snd.fst.fst, z.snd.snd.snd.fst.snd.fst) y.fst = true ∧ True) ∧ (attrQ x.fst (z.snd.snd.snd.fst.fst,
  z.snd.snd.snd.fst.snd.fst) y.fst = true ∧ True) ∧ True) ∧ True) ∧ ((bif decide (y.snd.fst = (0 : Int)) then decide (y.fst = (List.getD z.snd.fst (1 : Nat) (Kd.dft (Kd.pair (Kd.int
  IntKind.i64) (Kd.sl (Kd.int IntKind.u8))))).fst) else false) = !true → (attrQ x.fst (z.snd.snd.snd.fst.fst, z.snd.snd.snd.fst.snd.fst) false = true ∧ True) ∧ (attrQ x.fst
  (z.snd.snd.snd.fst.fst, z.snd.snd.snd.fst.snd.fst) false = true ∧ True) ∧ True)) ∧ True) ∧ True) ∧ True) ∧ True) ∧ ((decide (y.snd.fst = (0 : Int)) = true → (decide (y.snd.fst = (0 : Int))
  == true) = true ∧ (decide (y.snd.fst = (0 : Int)) == true) = true ∧ True) ∧ (((decide (y.snd.fst = (0 : Int)) = true → (decide (y.snd.fst = (0 : Int)) == true) = true) ∧ (((bif decide
  (y.snd.fst = (0 : Int)) then decide (y.fst = (List.getD z.snd.fst (1 : Nat) (Kd.dft (Kd.pair (Kd.int IntKind.i64) (Kd.sl (Kd.int IntKind.u8))))).fst) else false) = true → True) ∧ (((bif
  decide (y.snd.fst = (0 : Int)) then decide (y.fst = (List.getD z.snd.fst (1 : Nat) (Kd.dft (Kd.pair (Kd.int IntKind.i64) (Kd.sl (Kd.int IntKind.u8))))).fst) else false) = true → ((bif
  decide (y.snd.fst = (0 : Int)) then decide (y.fst = (List.getD z.snd.fst (1 : Nat) (Kd.dft (Kd.pair (Kd.int IntKind.i64) (Kd.sl (Kd.int IntKind.u8))))).fst) else false) == true) = true ∧
  True ∧ (∀ (y : Bool × Unit), Kd.wf Kd.bool y.fst ∧ True → y.fst = mayA (z.snd.snd.snd.fst.fst, z.snd.snd.snd.fst.snd.fst) → (attrQ x.fst (z.snd.snd.snd.fst.fst, z.snd.snd.snd.fst.snd.fst)
  y.fst = true ∧ True) ∧ (attrQ x.fst (z.snd.snd.snd.fst.fst, z.snd.snd.snd.fst.snd.fst) y.fst = true ∧ True) ∧ True) ∧ True) ∧ ((bif decide (y.snd.fst = (0 : Int)) then decide (y.fst =
  (List.getD z.snd.fst (1 : Nat) (Kd.dft (Kd.pair (Kd.int IntKind.i64) (Kd.sl (Kd.int IntKind.u8))))).fst) else false) = !true → (attrQ x.fst (z.snd.snd.snd.fst.fst,
  z.snd.snd.snd.fst.snd.fst) false = true ∧ True) ∧ (attrQ x.fst (z.snd.snd.snd.fst.fst, z.snd.snd.snd.fst.snd.fst) false = true ∧ True) ∧ True)) ∧ True) ∧ True) ∧ True) ∧ ((decide (y.snd.fst
  = (0 : Int)) = true → (decide (y.snd.fst = (0 : Int)) == true) = true) ∧ ((((bif decide (y.snd.fst = (0 : Int)) then decide (y.fst = (List.getD z.snd.fst (1 : Nat) (Kd.dft (Kd.pair (Kd.int
  IntKind.i64) (Kd.sl (Kd.int IntKind.u8))))).fst) else false) = true → True) ∧ (((bif decide (y.snd.fst = (0 : Int)) then decide (y.fst = (List.getD z.snd.fst (1 : Nat) (Kd.dft (Kd.pair
  (Kd.int IntKind.i64) (Kd.sl (Kd.int IntKind.u8))))).fst) else false) = true → ((bif decide (y.snd.fst = (0 : Int)) then decide (y.fst = (List.getD z.snd.fst (1 : Nat) (Kd.dft (Kd.pair
  (Kd.int IntKind.i64) (Kd.sl (Kd.int IntKind.u8))))).fst) else false) == true) = true ∧ True ∧ (∀ (y : Bool × Unit), Kd.wf Kd.bool y.fst ∧ True → y.fst = mayA (z.snd.snd.snd.fst.fst,
  z.snd.snd.snd.fst.snd.fst) → (attrQ x.fst (z.snd.snd.snd.fst.fst, z.snd.snd.snd.fst.snd.fst) y.fst = true ∧ True) ∧ (attrQ x.fst (z.snd.snd.snd.fst.fst, z.snd.snd.snd.fst.snd.fst) y.fst =
  true ∧ True) ∧ True) ∧ True) ∧ ((bif decide (y.snd.fst = (0 : Int)) then decide (y.fst = (List.getD z.snd.fst (1 : Nat) (Kd.dft (Kd.pair (Kd.int IntKind.i64) (Kd.sl (Kd.int
  IntKind.u8))))).fst) else false) = !true → (attrQ x.fst (z.snd.snd.snd.fst.fst, z.snd.snd.snd.fst.snd.fst) false = true ∧ True) ∧ (attrQ x.fst (z.snd.snd.snd.fst.fst,
  z.snd.snd.snd.fst.snd.fst) false = true ∧ True) ∧ True)) ∧ True) ∧ True) ∧ (((bif decide (y.snd.fst = (0 : Int)) then decide (y.fst = (List.getD z.snd.fst (1 : Nat) (Kd.dft (Kd.pair (Kd.int
  IntKind.i64) (Kd.sl (Kd.int IntKind.u8))))).fst) else false) = true → True) ∧ ((((bif decide (y.snd.fst = (0 : Int)) then decide (y.fst = (List.getD z.snd.fst (1 : Nat) (Kd.dft (Kd.pair
  (Kd.int IntKind.i64) (Kd.sl (Kd.int IntKind.u8))))).fst) else false) = true → ((bif decide (y.snd.fst = (0 : Int)) then decide (y.fst = (List.getD z.snd.fst (1 : Nat) (Kd.dft (Kd.pair
  (Kd.int IntKind.i64) (Kd.sl (Kd.int IntKind.u8))))).fst) else false) == true) = true ∧ True ∧ (∀ (y : Bool × Unit), Kd.wf Kd.bool y.fst ∧ True → y.fst = mayA (z.snd.snd.snd.fst.fst,
  z.snd.snd.snd.fst.snd.fst) → (attrQ x.fst (z.snd.snd.snd.fst.fst, z.snd.snd.snd.fst.snd.fst) y.fst = true ∧ True) ∧ (attrQ x.fst (z.snd.snd.snd.fst.fst, z.snd.snd.snd.fst.snd.fst) y.fst =
  true ∧ True) ∧ True) ∧ True) ∧ ((bif decide (y.snd.fst = (0 : Int)) then decide (y.fst = (List.getD z.snd.fst (1 : Nat) (Kd.dft (Kd.pair (Kd.int IntKind.i64) (Kd.sl (Kd.int
  IntKind.u8))))).fst) else false) = !true → (attrQ x.fst (z.snd.snd.snd.fst.fst, z.snd.snd.snd.fst.snd.fst) false = true ∧ True) ∧ (attrQ x.fst (z.snd.snd.snd.fst.fst,
  z.snd.snd.snd.fst.snd.fst) false = true ∧ True) ∧ True)) ∧ True) ∧ (((bif decide (y.snd.fst = (0 : Int)) then decide (y.fst = (List.getD z.snd.fst (1 : Nat) (Kd.dft (Kd.pair (Kd.int
  IntKind.i64) (Kd.sl (Kd.int IntKind.u8))))).fst) else false) = true → ((bif decide (y.snd.fst = (0 : Int)) then decide (y.fst = (List.getD z.snd.fst (1 : Nat) (Kd.dft (Kd.pair (Kd.int
  IntKind.i64) (Kd.sl (Kd.int IntKind.u8))))).fst) else false) == true) = true ∧ True ∧ (∀ (y : Bool × Unit), Kd.wf Kd.bool y.fst ∧ True → y.fst = mayA (z.snd.snd.snd.fst.fst,
  z.snd.snd.snd.fst.snd.fst) → ((attrQ x.fst (z.snd.snd.snd.fst.fst, z.snd.snd.snd.fst.snd.fst) y.fst = true ∧ True) ∧ (attrQ x.fst (z.snd.snd.snd.fst.fst, z.snd.snd.snd.fst.snd.fst) y.fst =
  true ∧ True) ∧ True) ∧ ((attrQ x.fst (z.snd.snd.snd.fst.fst, z.snd.snd.snd.fst.snd.fst) y.fst = true ∧ True) ∧ True) ∧ True) ∧ True) ∧ ((bif decide (y.snd.fst = (0 : Int)) then decide
  (y.fst = (List.getD z.snd.fst (1 : Nat) (Kd.dft (Kd.pair (Kd.int IntKind.i64) (Kd.sl (Kd.int IntKind.u8))))).fst) else false) = !true → ((attrQ x.fst (z.snd.snd.snd.fst.fst,
  z.snd.snd.snd.fst.snd.fst) false = true ∧ True) ∧ (attrQ x.fst (z.snd.snd.snd.fst.fst, z.snd.snd.snd.fst.snd.fst) false = true ∧ True) ∧ True) ∧ ((attrQ x.fst (z.snd.snd.snd.fst.fst,
  z.snd.snd.snd.fst.snd.fst) false = true ∧ True) ∧ True) ∧ True)) ∧ True) ∧ True) ∧ True) ∧ True) ∧ True) ∧ True) ∧ True)) ∧ True) ∧ True
theorem e44 : t44 = Con.vc c_name_attr GL (mkEnvO ty [(65, conSem c_name_only), (43, conSem c_der_All), (66, conSem c_oid_Decode), (67, conSem c_oid_Begins), (47, conSem c_text_Kind), (39, conSem c_name_may)] [] [] [0, 2, 3, 4, 5, 6, 8, 9, 10, 11, 40, 62] [1000000]) {joins := [8,9], news := [(9,10,56)]} Tryd.f44.ntmps Tryd.f44.results.toList (bodyOf Tryd.f44) := by kernel_rfl
theorem k44 : t44 := by
  unfold t44
  rintro ⟨b, _⟩ hx hp
  have hp : b.length ≤ 100000000 := hp
  have hb : Bys b := sl_bys hx.1
  try dsimp +instances only [dft_int, dft_sl, dft_str]
  simp only [true_and, and_true, eq_self_iff_true, implies_true, reduceCtorEq, false_implies, true_implies, decide_eq_true_eq, decide_eq_false_iff_not, beq_self_eq_true, Bool.not_eq_true', ne_eq, Decidable.not_not, List.nil_append, List.length_singleton, List.length_cons, List.length_nil, Nat.zero_add, Nat.add_zero, Nat.mul_one, and_self, beq_iff_eq, Bool.not_true, Bool.not_false, Bool.not_eq_false', Bool.cond_false_right, Bool.and_eq_true, imp_self, Bool.not_eq_true, Bool.cond_true_left, Bool.or_eq_true]
  simp only [edft_eq]
  rw [bs_nil]
  have hol := oneD_len b
  refine ⟨by decide, hp, ?_⟩
  rintro ⟨c, ok, _⟩ _ ⟨ec, eok⟩
  simp only at ec eok ⊢
  subst ec
  refine ⟨by rw [lenB]; omega, ?_⟩
  rintro ⟨l, n, e, _⟩ _ el
  simp only at el ⊢
  have hread : ∀ m, mayA m = true → attrB m = b → ok = true ∧ l = [(6, [85, 4, m.1]), elK m] ∧ e = 0 ∧ DecD [85, 4, m.1] = ([2, 5, 4, m.1], 0) := fun m hm he => by
    obtain ⟨r1, r2, r3⟩ := attr_read hm he
    rw [r2] at el
    simp only [Prod.mk.injEq] at el
    refine ⟨?_, el.1, el.2.2, r3⟩
    rw [eok, r1]
    rfl
  refine ⟨fun h => ⟨h, by decide, ?_⟩, fun h => attrQ_bad fun m hm he => ?_, fun h => ?_⟩
  · simp only [Bool.or_eq_false_iff, decide_eq_false_iff_not, Decidable.not_not] at h
    omega
  · obtain ⟨r1, r2, r3, _⟩ := hread m hm he
    subst r2
    rcases h with ((h | h) | h) | h
    · rw [r1] at h; cases h
    · exact h r3
    · exact h rfl
    · exact h rfl
  have hh := h
  rw [Bool.or_eq_false_iff, Bool.or_eq_false_iff, Bool.or_eq_false_iff, Bool.not_eq_false'] at hh
  obtain ⟨⟨⟨k1, k2⟩, k3⟩, k4⟩ := hh
  have k2 := dec_not k2
  have k3 := dec_not k3
  have k4 := dec_not k4
  have hll := two_list (l := l) (by omega)
  refine ⟨⟨by decide, by omega⟩, ?_⟩
  rintro ⟨arcs, e2, _⟩ _ ed
  simp only at ed ⊢
  have hread2 : ∀ m, mayA m = true → attrB m = b → l.getD 1 edft = elK m ∧ arcs = [2, 5, 4, m.1] ∧ e2 = 0 := fun m hm he => by
    obtain ⟨_, r2, _, r4⟩ := hread m hm he
    rw [r2] at ed ⊢
    have := ed.trans r4
    exact ⟨rfl, (Prod.mk.inj this).1, (Prod.mk.inj this).2⟩
  refine ⟨fun _ z => l = z.2.1 ∧ arcs = z.2.2.1 ∧ arcs.length = 4 ∧ arcs.take 3 = [2, 5, 4] ∧ e2 = 0, ⟨fun h => ⟨h, ?_⟩, fun h => attrQ_bad fun m hm he => ?_⟩, ?_⟩
  · rw [Bool.or_eq_false_iff] at h
    have g1 := dec_not h.1
    have g2 := dec_not h.2
    rintro ⟨q, _⟩ _ eq
    simp only at eq ⊢
    subst eq
    refine ⟨fun h => attrQ_bad fun m hm he => ?_, fun h => ⟨by trivial, by trivial, by omega, of_decide_eq_true h, g1⟩⟩
    obtain ⟨_, r3, _⟩ := hread2 m hm he
    rw [r3] at h
    exact absurd h (by simp)
  · obtain ⟨_, r3, r4⟩ := hread2 m hm he
    rcases h with h | h
    · exact h r4
    · rw [r3] at h; exact h rfl
  rintro ⟨u, _⟩ ⟨⟨z1, z2, _⟩, l', arcs', _⟩ _ _ ⟨j1, j2, j3, j4, j5⟩
  simp only at j1 j2 ⊢
  subst j1
  subst j2
  have harc := four_list (l := arcs) j3 j4
  refine ⟨fun _ z => l = z.2.1 ∧ arcs.getD 3 0 = z.2.2.2.1.1 ∧ (l.getD 1 edft).2 = z.2.2.2.1.2.1, ⟨⟨by decide, by omega⟩, ⟨by decide, by omega⟩, by decide, by trivial, by trivial, by trivial⟩, ?_⟩
  rintro _ ⟨⟨z3, z4, _⟩, l2, arcs2, ⟨k, v, _⟩, _⟩ _ ⟨q1, q2, q3⟩
  simp only at q1 q2 q3 ⊢
  subst q1
  subst q2
  subst q3
  rintro ⟨kd, ke, _⟩ _ ⟨hk1, hk2⟩
  simp only at hk1 hk2 ⊢
  refine ⟨fun h => ⟨h, by decide, by omega⟩, fun h => ⟨h, ?_⟩, fun h => attrQ_bad fun m hm he => ?_⟩
  · rintro ⟨q, _⟩ _ eq
    simp only at eq ⊢
    subst eq
    cases hq : mayA (arcs.getD 3 0, (l.getD 1 edft).2) with
    | true =>
      refine attrQ_iff.2 ⟨fun _ => ⟨hq, ?_⟩, fun h => by cases h⟩
      have ek : ok = true := k1
      rw [eok, Bool.and_eq_true, decide_eq_true_eq, decide_eq_true_eq] at ek
      refine read_attr (l := l) (arcs := arcs) hb ek.1 ek.2 (x := l.getD 0 edft) (y := l.getD 1 edft) (n := n) (by rw [← el, k2]; exact Prod.ext hll rfl) k4 ?_ rfl (by rw [← h.2, ← hk1]) hq
      simp only
      rw [← harc, ← ed, j5]
    | false =>
      refine attrQ_bad fun m hm he => ?_
      obtain ⟨r2, r3, _⟩ := hread2 m hm he
      rw [r2, r3] at hq
      have hq : mayA m = false := hq
      rw [hm] at hq
      cases hq
  · obtain ⟨r2, _, _⟩ := hread2 m hm he
    have hkm := (may_kind hm).1
    rw [r2] at hk1 hk2
    have hk2 : ke = (kindD m.2).2 := hk2
    have hk1 : kd = (kindD m.2).1 := hk1
    rw [Bool.and_eq_false_iff] at h
    rcases h with h | h
    · exact of_decide_eq_false h (hk2.trans hkm)
    · exact of_decide_eq_false h (by rw [r2]; exact hk1)
theorem h44 : c_name_attr.ok Tryd.prog GL 44 := conO_ok (H := {joins := [8,9], news := [(9,10,56)]}) (mkEnvO_ok (gl := GL) (l := [(65, conSem c_name_only), (43, conSem c_der_All), (66, conSem c_oid_Decode), (67, conSem c_oid_Begins), (47, conSem c_text_Kind), (39, conSem c_name_may)]) (q := []) (d := []) _ [1000000] tyOk (by kernel_rfl) ⟨h65.call, h43.call, h66.call, h67.call, h47.call, h39.call, trivial⟩ trivial trivial) (by kernel_rfl) (by kernel_rfl) (Eq.mp e44 k44)

def t23 : Prop :=
  ∀ (x : List Int × Unit), Kd.wf (Kd.sl (Kd.int IntKind.u8)) x.fst ∧ True → lenB x.fst ≤ (100000000 : Nat) → lenB x.fst ≤ (1000000000 : Nat) ∧ (∀ (y : (Int × List Int) × Int × Unit), Kd.wf
  (Kd.pair (Kd.int IntKind.i64) (Kd.sl (Kd.int IntKind.u8))) y.fst ∧ Kd.wf (Kd.int IntKind.i64) y.snd.fst ∧ True → (y.fst, y.snd.fst) = oneD x.fst → (2 : Nat) ≤ (65536 : Nat) ∧ (decide
  (y.snd.fst ≠ (0 : Int)) = true → decQ x.fst [] y.snd.fst = true) ∧ (decide (y.snd.fst ≠ (0 : Int)) = false → lenB y.fst.snd ≤ (1000000000 : Nat) ∧ (∀ (y_1 : List (Int × List Int) × Int ×
  Int × Unit), Kd.wf (Kd.sl (Kd.pair (Kd.int IntKind.i64) (Kd.sl (Kd.int IntKind.u8)))) y_1.fst ∧ Kd.wf (Kd.int IntKind.i64) y_1.snd.fst ∧ Kd.wf (Kd.int IntKind.i64) y_1.snd.snd.fst ∧ True →
  (y_1.fst, y_1.snd.fst, y_1.snd.snd.fst) = allD y.fst.snd → (decide (y_1.snd.snd.fst ≠ (0 : Int)) = false → True) ∧ (decide (y_1.snd.snd.fst ≠ (0 : Int)) = false → (decide (y_1.snd.snd.fst ≠
  (0 : Int)) == false) = true ∧ True) ∧ (decide (y_1.snd.snd.fst ≠ (0 : Int)) = false → (decide (y_1.snd.snd.fst ≠ (0 : Int)) == false) = true ∧ True) ∧ (decide (y_1.snd.snd.fst ≠ (0 : Int))
  = false → (decide (y_1.snd.snd.fst ≠ (0 : Int)) == false) = true) ∧ ((bif decide (y_1.snd.snd.fst ≠ (0 : Int)) then true else decide (y.fst.fst ≠ (48 : Int))) = false → True) ∧ ((bif decide
  (y_1.snd.snd.fst ≠ (0 : Int)) then true else decide (y.fst.fst ≠ (48 : Int))) = false → ((bif decide (y_1.snd.snd.fst ≠ (0 : Int)) then true else decide (y.fst.fst ≠ (48 : Int))) == false)
  = true ∧ True) ∧ ((bif decide (y_1.snd.snd.fst ≠ (0 : Int)) then true else decide (y.fst.fst ≠ (48 : Int))) = false → ((bif decide (y_1.snd.snd.fst ≠ (0 : Int)) then true else decide
  (y.fst.fst ≠ (48 : Int))) == false) = true ∧ True) ∧ ((bif decide (y_1.snd.snd.fst ≠ (0 : Int)) then true else decide (y.fst.fst ≠ (48 : Int))) = false → ((bif decide (y_1.snd.snd.fst ≠ (0
  : Int)) then true else decide (y.fst.fst ≠ (48 : Int))) == false) = true) ∧ ((bif bif decide (y_1.snd.snd.fst ≠ (0 : Int)) then true else decide (y.fst.fst ≠ (48 : Int)) then true else
  decide ((16 : Int) < (↑(List.length y_1.fst) : Int))) = true → decQ x.fst [] (120 : Int) = true) ∧ ((bif bif decide (y_1.snd.snd.fst ≠ (0 : Int)) then true else decide (y.fst.fst ≠ (48 :
  Int)) then true else decide ((16 : Int) < (↑(List.length y_1.fst) : Int))) = false → ∃ (I : Int × Int × Unit → (Int × List Int × Unit) × List (Int × List Int) × List (Int × List Int) × List
  (Int × List Int) × Unit → Prop), ∃ (μ : Int × Int × Unit → (Int × List Int × Unit) × List (Int × List Int) × List (Int × List Int) × List (Int × List Int) × Unit → Nat), ((↑(List.length
  y_1.fst) : Int) = (↑(List.length y_1.fst) : Int) ∧ Value.bool false = Value.bool false ∧ y_1.snd.snd.fst = y_1.snd.snd.fst ∧ Value.bool false = Value.bool false ∧ y.snd.fst = y.snd.fst ∧
  x.fst = x.fst ∧ I ((0 : Int), (0 : Int), ()) ((y.fst.fst, y.fst.snd, ()), y_1.fst, [], [], ())) ∧ ∀ (y_2 : Int × Int × Unit) (z : (Int × List Int × Unit) × List (Int × List Int) × List (Int
  × List Int) × List (Int × List Int) × Unit), Kd.wf (Kd.int IntKind.i64) y_2.fst ∧ Kd.wf (Kd.int IntKind.i64) y_2.snd.fst ∧ True → (Kd.wf (Kd.int IntKind.i64) z.fst.fst ∧ Kd.wf (Kd.sl
  (Kd.int IntKind.u8)) z.fst.snd.fst ∧ True) ∧ Kd.wf (Kd.sl (Kd.pair (Kd.int IntKind.i64) (Kd.sl (Kd.int IntKind.u8)))) z.snd.fst ∧ Kd.wf (Kd.sl (Kd.pair (Kd.int IntKind.i64) Kd.str))
  z.snd.snd.fst ∧ Kd.wf (Kd.sl (Kd.pair (Kd.int IntKind.i64) Kd.str)) z.snd.snd.snd.fst ∧ True → I y_2 z → (decide (y_2.fst < (↑(List.length y_1.fst) : Int)) = true → ((0 : Int) ≤ y_2.fst ∧
  y_2.fst < (↑(List.length z.snd.fst) : Int)) ∧ (2 : Nat) ≤ (65536 : Nat) ∧ lenB (List.getD z.snd.fst (Int.toNat y_2.fst) (Kd.dft (Kd.pair (Kd.int IntKind.i64) (Kd.sl (Kd.int
  IntKind.u8))))).snd ≤ (100000000 : Nat) ∧ (∀ (y_3 : (Int × List Int) × Bool × Unit), Kd.wf (Kd.pair (Kd.int IntKind.i64) Kd.str) y_3.fst ∧ Kd.wf Kd.bool y_3.snd.fst ∧ True → attrQ
  (List.getD z.snd.fst (Int.toNat y_2.fst) (Kd.dft (Kd.pair (Kd.int IntKind.i64) (Kd.sl (Kd.int IntKind.u8))))).snd y_3.fst y_3.snd.fst = true → (2 : Nat) ≤ (65536 : Nat) ∧ ((!y_3.snd.fst) =
  false → True) ∧ ((!y_3.snd.fst) = false → ((!y_3.snd.fst) == false) = true ∧ True) ∧ ((!y_3.snd.fst) = false → ((!y_3.snd.fst) == false) = true ∧ True) ∧ ((!y_3.snd.fst) = false →
  ((!y_3.snd.fst) == false) = true) ∧ ((bif !y_3.snd.fst then true else decide ((List.getD z.snd.fst (Int.toNat y_2.fst) (Kd.dft (Kd.pair (Kd.int IntKind.i64) (Kd.sl (Kd.int
  IntKind.u8))))).fst ≠ (49 : Int))) = true → decQ x.fst [] (120 : Int) = true) ∧ ((bif !y_3.snd.fst then true else decide ((List.getD z.snd.fst (Int.toNat y_2.fst) (Kd.dft (Kd.pair (Kd.int
  IntKind.i64) (Kd.sl (Kd.int IntKind.u8))))).fst ≠ (49 : Int))) = false → (0 : Nat) < (2 : Nat) ∧ (List.length z.snd.snd.fst + List.length [(y_3.fst.fst, y_3.fst.snd)]) * (24 : Nat) ≤
  (140737488355328 : Nat) ∧ List.length z.snd.snd.fst + List.length [(y_3.fst.fst, y_3.fst.snd)] ≤ (9223372036854775807 : Nat) ∧ (↑(List.length y_1.fst) : Int) = (↑(List.length y_1.fst) :
  Int) ∧ Value.bool false = Value.bool false ∧ y_1.snd.snd.fst = y_1.snd.snd.fst ∧ Value.bool false = Value.bool false ∧ y.snd.fst = y.snd.fst ∧ x.fst = x.fst ∧ I (IntKind.wrap IntKind.i64
  (y_2.fst + (1 : Int)), y_2.snd.fst, ()) ((z.fst.fst, z.fst.snd.fst, ()), z.snd.fst, z.snd.snd.fst ++ [(y_3.fst.fst, y_3.fst.snd)], z.snd.snd.snd.fst, ()) ∧ μ (IntKind.wrap IntKind.i64
  (y_2.fst + (1 : Int)), y_2.snd.fst, ()) ((z.fst.fst, z.fst.snd.fst, ()), z.snd.fst, z.snd.snd.fst ++ [(y_3.fst.fst, y_3.fst.snd)], z.snd.snd.snd.fst, ()) < μ y_2 z)) ∧ True) ∧ (decide
  (y_2.fst < (↑(List.length y_1.fst) : Int)) = false → decQ x.fst z.snd.snd.fst (0 : Int) = true))) ∧ True)) ∧ True
theorem e23 : t23 = Con.vc c_name_Decode GL (mkEnv ty [(42, conSem c_der_One), (43, conSem c_der_All), (44, conSem c_name_attr)] [] [] [0, 2, 3, 4, 5, 6, 8, 9, 11, 12, 13, 20, 40, 41, 42, 43, 44, 59]) {} Tryd.f23.ntmps Tryd.f23.results.toList (bodyOf Tryd.f23) := by kernel_rfl
theorem k23 : t23 := by
  unfold t23
  rintro ⟨b, _⟩ hx hp
  have hp : b.length ≤ 100000000 := hp
  have hb : Bys b := sl_bys hx.1
  try dsimp +instances only [dft_int, dft_sl, dft_str]
  simp only [true_and, and_true, eq_self_iff_true, implies_true, reduceCtorEq, false_implies, true_implies, decide_eq_true_eq, decide_eq_false_iff_not, beq_self_eq_true, Bool.not_eq_true', ne_eq, Decidable.not_not, List.nil_append, List.length_singleton, List.length_cons, List.length_nil, Nat.zero_add, Nat.add_zero, Nat.mul_one, and_self, beq_iff_eq, Bool.not_true, Bool.not_false, Bool.not_eq_false', Bool.cond_false_right, Bool.and_eq_true, imp_self, Bool.not_eq_true, Bool.cond_true_left, Bool.or_eq_true]
  simp only [edft_eq]
  have hol := oneD_len b
  refine ⟨by rw [lenB]; omega, ?_⟩
  rintro ⟨⟨t, c⟩, e, _⟩ _ e1
  simp only at e1 ⊢
  have o1 : (oneD b).1.1 = t := by rw [← e1]
  have o2 : (oneD b).1.2 = c := by rw [← e1]
  have o3 : (oneD b).2 = e := by rw [← e1]
  rw [o2] at hol
  refine ⟨by decide, fun h => decQ_iff.2 (.inl ⟨by rw [o3]; exact h, o3.symm, rfl⟩), fun h => ⟨by rw [lenB]; omega, ?_⟩⟩
  subst h
  rintro ⟨l, n, e2, _⟩ _ el
  simp only at el ⊢
  have hread : ∀ m, mayN m = true → encN m = b → t = 48 ∧ l = m.map (fun a => ((49 : Int), attrB a)) ∧ e2 = 0 := fun m hm he => by
    obtain ⟨r1, r2⟩ := dec_read hm he
    rw [o2, ← el] at r2
    simp only [Prod.mk.injEq] at r2
    exact ⟨by rw [← o1, r1], r2.1, r2.2.2⟩
  refine ⟨fun h => decQ_bad o3 fun m hm he => ?_, fun h => ?_⟩
  · obtain ⟨r1, r2, r3⟩ := hread m hm he
    have := (mayN_args hm).1
    have hl := congrArg List.length r2
    rw [List.length_map] at hl
    rcases h with (h | h) | h
    · exact h r3
    · exact h r1
    · omega
  simp only [Bool.or_eq_false_iff, decide_eq_false_iff_not, Decidable.not_not] at h
  obtain ⟨⟨k1, k2⟩, k3⟩ := h
  subst k1 k2
  have hel : ∀ x ∈ l, x.2.length ≤ 100000000 := fun x hx => by
    have := (allD_len c).2 x (by rw [← el]; exact hx)
    omega
  refine ⟨fun y z => z.2.1 = l ∧ 0 ≤ y.1 ∧ y.1 ≤ l.length ∧ (∀ a ∈ (z.2.2.1 : List AttrT), mayA a = true) ∧ l.take y.1.toNat = (z.2.2.1 : List AttrT).map (fun a => ((49 : Int), attrB a)), fun y _ => ((l.length : Int) - y.1).toNat, ⟨rfl, Int.le_refl 0, by simp only; omega, (fun a ha => by cases ha), rfl⟩, ?_⟩
  rintro ⟨i, q, _⟩ ⟨⟨t2, c2, _⟩, l2, acc, v, _⟩ _ _ ⟨z1, i0, i1, hA, hz⟩
  simp only at z1 i0 i1 hA hz ⊢
  subst z1
  have hal := congrArg List.length hz
  rw [List.length_take, List.length_map] at hal
  refine ⟨fun hlt => ?_, fun hge => ?_⟩
  · have hst := take_snocA edft l2 i.toNat (by omega)
    have hmem := mem_getD edft l2 i.toNat (by omega)
    have hgi : ∀ m, mayN m = true → encN m = b → ∃ a, mayA a = true ∧ l2.getD i.toNat edft = (49, attrB a) := fun m hm he => by
      obtain ⟨_, r2, _⟩ := hread m hm he
      rw [r2] at hmem
      obtain ⟨a, ha, e⟩ := List.mem_map.1 hmem
      exact ⟨a, (mayN_args hm).2 a ha, by rw [r2]; exact e.symm⟩
    refine ⟨⟨i0, hlt⟩, by decide, by rw [lenB]; exact hel _ hmem, ?_⟩
    rintro ⟨⟨k, v2⟩, ok, _⟩ _ hq
    simp only at hq ⊢
    have hq2 := attrQ_iff.1 hq
    refine ⟨by decide, fun h => decQ_bad o3 fun m hm he => ?_, fun h => ?_⟩
    · obtain ⟨a, ha, ex⟩ := hgi m hm he
      rcases h with h | h
      · exact hq2.2 h a ha (by rw [ex])
      · exact h (by rw [ex])
    · rw [Bool.or_eq_false_iff, Bool.not_eq_false'] at h
      obtain ⟨g1, g2⟩ := hq2.1 h.1
      have h2 := dec_not h.2
      rw [wrapK (i + 1) (by omega) (by omega)]
      refine ⟨by decide, by omega, by omega, ⟨by trivial, by omega, by omega, fun a ha => ?_, ?_⟩, by omega⟩
      · rcases List.mem_append.1 ha with ha | ha
        · exact hA a ha
        · rw [List.mem_singleton.1 ha]; exact g1
      · rw [show (i + 1).toNat = i.toNat + 1 by omega, hst, hz, List.map_append, List.map_singleton, g2, ← h2]
  · rw [List.take_of_length_le (by omega)] at hz
    refine decQ_iff.2 (.inr ⟨o3, .inl ⟨rfl, mayN_of (by omega) hA, enc_sets hb o3 o1 (n := n) ?_⟩⟩)
    rw [o2, ← el, hz]
theorem h23 : c_name_Decode.ok Tryd.prog GL 23 := con_ok (H := {}) (mkEnv_ok (gl := GL) (l := [(42, conSem c_der_One), (43, conSem c_der_All), (44, conSem c_name_attr)]) (q := []) (d := []) _ tyOk (by kernel_rfl) ⟨h42.call, h43.call, h44.call, trivial⟩ trivial trivial) (by kernel_rfl) (by kernel_rfl) (Eq.mp e23 k23)

end Go.Proofs.YtcaekpbmmbfeiaaDoor
end
section
/- Contracts. -/
namespace Go.Proofs.YtcaekpbmmbfeiaaDoor
open Go Go.Vc Go.Pl Go.Proofs
def c_law12_own : Con := { args := [.own 56 AT, .dat (.sl AT), .dat (.sl AT)], res := [.dat .bool], pre := fun x => lenA x.1 ≤ 1000 ∧ lenA x.2.1 ≤ 1000 ∧ lenA x.2.2.1 ≤ 1000, post := fun x y => x.1 = x.2.2.1 → x.2.1 = x.2.2.1 → y.1 = true }

end Go.Proofs.YtcaekpbmmbfeiaaDoor
end
section
/- Walks. -/
namespace Go.Proofs.YtcaekpbmmbfeiaaDoor
open Go Go.Vc Go.Pl Go.Proofs
set_option linter.unusedVariables false
set_option linter.unusedSimpArgs false
def t20 : Prop :=
  ∀ (x : List (Int × List Int) × List (Int × List Int) × List (Int × List Int) × Unit), Kd.wf (Kd.sl (Kd.pair (Kd.int IntKind.i64) Kd.str)) x.fst ∧ Kd.wf (Kd.sl (Kd.pair (Kd.int IntKind.i64)
  Kd.str)) x.snd.fst ∧ Kd.wf (Kd.sl (Kd.pair (Kd.int IntKind.i64) Kd.str)) x.snd.snd.fst ∧ True → lenA x.fst ≤ (1000 : Nat) ∧ lenA x.snd.fst ≤ (1000 : Nat) ∧ lenA x.snd.snd.fst ≤ (1000 : Nat)
  → (List.length x.fst ≤ (1000000000 : Nat) ∧ List.length x.snd.snd.fst ≤ (1000000000 : Nat)) ∧ (∀ (y : Bool × Unit), Kd.wf Kd.bool y.fst ∧ True → y.fst = decide (x.fst = x.snd.snd.fst) →
  ((!y.fst) = true → x.fst = x.snd.snd.fst → x.snd.fst = x.snd.snd.fst → false = true) ∧ ((!y.fst) = false → ∃ (I : Int × Unit → List (Int × List Int) × Unit → Prop), ∃ (μ : Int × Unit → List
  (Int × List Int) × Unit → Nat), (Value.bool false = Value.bool false ∧ Value.bool false = Value.bool false ∧ x.snd.fst = x.snd.fst ∧ x.snd.snd.fst = x.snd.snd.fst ∧ I ((0 : Int), ())
  (x.fst, ())) ∧ ∀ (y : Int × Unit) (z : List (Int × List Int) × Unit), Kd.wf (Kd.int IntKind.i64) y.fst ∧ True → Kd.wf (Kd.sl (Kd.pair (Kd.int IntKind.i64) Kd.str)) z.fst ∧ True → I y z →
  (decide (y.fst < (↑(List.length z.fst) : Int)) = true → ((0 : Int) ≤ y.fst ∧ y.fst < (↑(List.length z.fst) : Int)) ∧ Value.bool false = Value.bool false ∧ Value.bool false = Value.bool
  false ∧ x.snd.fst = x.snd.fst ∧ x.snd.snd.fst = x.snd.snd.fst ∧ I (IntKind.wrap IntKind.i64 (y.fst + (1 : Int)), ()) (List.set z.fst (Int.toNat y.fst) ((-1 : Int), (List.getD z.fst
  (Int.toNat y.fst) (Kd.dft (Kd.pair (Kd.int IntKind.i64) Kd.str))).snd), ()) ∧ μ (IntKind.wrap IntKind.i64 (y.fst + (1 : Int)), ()) (List.set z.fst (Int.toNat y.fst) ((-1 : Int), (List.getD
  z.fst (Int.toNat y.fst) (Kd.dft (Kd.pair (Kd.int IntKind.i64) Kd.str))).snd), ()) < μ y z) ∧ (decide (y.fst < (↑(List.length z.fst) : Int)) = false → (0 : Nat) < (2 : Nat) ∧ (List.length
  z.fst + (2 : Nat)) * (24 : Nat) ≤ (140737488355328 : Nat) ∧ List.length z.fst + (2 : Nat) ≤ (9223372036854775807 : Nat) ∧ (List.length x.snd.fst ≤ (1000000000 : Nat) ∧ List.length
  x.snd.snd.fst ≤ (1000000000 : Nat)) ∧ (∀ (y : Bool × Unit), Kd.wf Kd.bool y.fst ∧ True → y.fst = decide (x.snd.fst = x.snd.snd.fst) → x.fst = x.snd.snd.fst → x.snd.fst = x.snd.snd.fst →
  y.fst = true) ∧ True))) ∧ True
theorem e20 : t20 = Con.vc c_law12_own GL (mkEnv ty [(34, conSem c_r12_Alike)] [] [] [0, 1, 2, 6, 7, 11, 15]) {} Tryd.f20.ntmps Tryd.f20.results.toList (bodyOf Tryd.f20) := by kernel_rfl
theorem k20 : t20 := by
  unfold t20
  rintro ⟨a, b, c, _⟩ hx hp
  obtain ⟨h1, h2, h3⟩ := hp
  simp only [lenA] at h1 h2 h3
  try dsimp +instances only [dft_int, dft_sl, dft_str]
  simp only [true_and, and_true, eq_self_iff_true, implies_true, reduceCtorEq, false_implies, true_implies, decide_eq_true_eq, decide_eq_false_iff_not, beq_self_eq_true, Bool.not_eq_true', ne_eq, Decidable.not_not, List.nil_append, List.length_singleton, List.length_cons, List.length_nil, Nat.zero_add, Nat.add_zero, Nat.mul_one, and_self, beq_iff_eq, Bool.not_true, Bool.not_false, Bool.not_eq_false', Bool.cond_false_right, Bool.and_eq_true, imp_self, Bool.not_eq_true, Bool.cond_true_left, Bool.or_eq_true]
  refine ⟨⟨by omega, by omega⟩, ?_⟩
  rintro ⟨q, _⟩ _ eq
  simp only at eq ⊢
  refine ⟨fun hf e _ => (by rw [eq, decide_eq_true e] at hf; cases hf), fun _ => ?_⟩
  refine ⟨fun y z => 0 ≤ y.1 ∧ (z.1 : List AttrT).length = a.length, fun y z => (((z.1 : List AttrT).length : Int) - y.1).toNat, ⟨Int.le_refl 0, rfl⟩, ?_⟩
  rintro ⟨i, _⟩ ⟨z, _⟩ _ _ ⟨i0, hz⟩
  simp only at i0 hz ⊢
  refine ⟨fun hlt => ?_, fun _ => ⟨by decide, by omega, by omega, ⟨by omega, by omega⟩, ?_⟩⟩
  · rw [wrapK (i + 1) (by omega) (by omega)]
    exact ⟨⟨i0, hlt⟩, ⟨by omega, by rw [List.length_set]; exact hz⟩, by rw [List.length_set]; omega⟩
  · rintro ⟨y, _⟩ _ ey _ e2
    simp only at ey ⊢
    rw [ey, decide_eq_true e2]
theorem h20 : c_law12_own.ok Tryd.prog GL 20 := con_ok (H := {}) (mkEnv_ok (gl := GL) (l := [(34, conSem c_r12_Alike)]) (q := []) (d := []) _ tyOk (by kernel_rfl) ⟨h34.call, trivial⟩ trivial trivial) (by kernel_rfl) (by kernel_rfl) (Eq.mp e20 k20)

end Go.Proofs.YtcaekpbmmbfeiaaDoor
end
section
/- Contracts. -/
namespace Go.Proofs.YtcaekpbmmbfeiaaDoor
open Go Go.Vc Go.Pl Go.Proofs
def c_law12_NameDecodes : Con := { args := [.dat BY], res := [.dat .bool], pre := fun x => ABulk [.dat BY] x ≤ 1048576, post := fun _ y => y.1 = true }

end Go.Proofs.YtcaekpbmmbfeiaaDoor
end
section
/- Walks. -/
namespace Go.Proofs.YtcaekpbmmbfeiaaDoor
open Go Go.Vc Go.Pl Go.Proofs
set_option linter.unusedVariables false
set_option linter.unusedSimpArgs false
set_option maxRecDepth 20000
def t6 : Prop :=
  ∀ (x : List Int × Unit), Kd.wf (Kd.sl (Kd.int IntKind.u8)) x.fst ∧ True → ABulk [AK.dat (Kd.sl (Kd.int IntKind.u8))] x ≤ (1048576 : Nat) → (0 : Nat) < (1 : Nat) ∧ ((0 : Nat) + List.length
  x.fst) * (1 : Nat) ≤ (140737488355328 : Nat) ∧ (0 : Nat) + List.length x.fst ≤ (9223372036854775807 : Nat) ∧ (0 : Nat) < (1 : Nat) ∧ (List.length ([] ++ x.fst) + (1 : Nat)) * (1 : Nat) ≤
  (140737488355328 : Nat) ∧ List.length ([] ++ x.fst) + (1 : Nat) ≤ (9223372036854775807 : Nat) ∧ ((0 : Int) ≤ (↑(List.length x.fst) : Int) ∧ (↑(List.length x.fst) : Int) ≤ (↑(List.length ([]
  ++ x.fst ++ [(90 : Int)])) : Int)) ∧ lenB (List.take (Int.toNat (↑(List.length x.fst) : Int) - (0 : Nat)) (List.drop (0 : Nat) ([] ++ x.fst ++ [(90 : Int)]))) ≤ (100000000 : Nat) ∧ (∀ (y :
  List (Int × List Int) × Int × Unit), Kd.wf (Kd.sl (Kd.pair (Kd.int IntKind.i64) Kd.str)) y.fst ∧ Kd.wf (Kd.int IntKind.i64) y.snd.fst ∧ True → decQ (List.take (Int.toNat (↑(List.length
  x.fst) : Int) - (0 : Nat)) (List.drop (0 : Nat) ([] ++ x.fst ++ [(90 : Int)]))) y.fst y.snd.fst = true → ((0 : Int) ≤ (↑(List.length x.fst) : Int) ∧ (↑(List.length x.fst) : Int) ≤
  (↑(List.length ([] ++ x.fst ++ [(90 : Int)])) : Int)) ∧ lenB (List.take (Int.toNat (↑(List.length x.fst) : Int) - (0 : Nat)) (List.drop (0 : Nat) ([] ++ x.fst ++ [(90 : Int)]))) ≤
  (100000000 : Nat) ∧ (∀ (y_1 : List (Int × List Int) × Int × Unit), Kd.wf (Kd.sl (Kd.pair (Kd.int IntKind.i64) Kd.str)) y_1.fst ∧ Kd.wf (Kd.int IntKind.i64) y_1.snd.fst ∧ True → decQ
  (List.take (Int.toNat (↑(List.length x.fst) : Int) - (0 : Nat)) (List.drop (0 : Nat) ([] ++ x.fst ++ [(90 : Int)]))) y_1.fst y_1.snd.fst = true → lenB x.fst ≤ (100000000 : Nat) ∧ (∀ (y_2 :
  List (Int × List Int) × Int × Unit), Kd.wf (Kd.sl (Kd.pair (Kd.int IntKind.i64) Kd.str)) y_2.fst ∧ Kd.wf (Kd.int IntKind.i64) y_2.snd.fst ∧ True → decQ x.fst y_2.fst y_2.snd.fst = true →
  (decide (y.snd.fst = y_2.snd.fst) = true → True) ∧ (decide (y.snd.fst = y_2.snd.fst) = true → True) ∧ (decide (y.snd.fst = y_2.snd.fst) = true → True) ∧ (decide (y.snd.fst = y_2.snd.fst) =
  true → (decide (y.snd.fst = y_2.snd.fst) == true) = true ∧ (decide (y.snd.fst = y_2.snd.fst) == true) = true ∧ (decide (y.snd.fst = y_2.snd.fst) == true) = true ∧ (lenA y.fst ≤ (1000 : Nat)
  ∧ lenA y_1.fst ≤ (1000 : Nat) ∧ lenA y_2.fst ≤ (1000 : Nat)) ∧ (∀ (y_3 : Bool × Unit), Kd.wf Kd.bool y_3.fst ∧ True → (y.fst = y_2.fst → y_1.fst = y_2.fst → y_3.fst = true) → (y_3.fst =
  true → True) ∧ (y_3.fst = true → (y_3.fst == true) = true ∧ True) ∧ (y_3.fst = true → True) ∧ (y_3.fst = true → (y_3.fst == true) = true ∧ True) ∧ (y_3.fst = true → (y_3.fst == true) = true
  ∧ List.length x.fst + (1 : Nat) ≤ (9223372036854775807 : Nat) ∧ True) ∧ (y_3.fst = true → (y_3.fst == true) = true ∧ (y_3.fst == true) = true ∧ True) ∧ (y_3.fst = true → (y_3.fst == true) =
  true) ∧ ((bif y_3.fst then decide ([] ++ x.fst ++ [(90 : Int)] = x.fst ++ bs { data := #[(90 : UInt8)] }) else false) = true → True ∧ (∀ (y : Bool × Unit), Kd.wf Kd.bool y.fst ∧ True →
  y.fst = true → y.fst = true) ∧ True) ∧ ((bif y_3.fst then decide ([] ++ x.fst ++ [(90 : Int)] = x.fst ++ bs { data := #[(90 : UInt8)] }) else false) = !true → false = true)) ∧ True) ∧
  (decide (y.snd.fst = y_2.snd.fst) = !true → false = true)) ∧ True) ∧ True) ∧ True
theorem e6 : t6 = Con.vc c_law12_NameDecodes GL (mkEnv ty [(23, conSem c_name_Decode), (24, conSem c_r12_Decode), (20, conSem c_law12_own), (16, conSem c_law12_works)] [] [] [0, 2, 3, 4, 5, 6, 8, 9]) {} Tryd.f6.ntmps Tryd.f6.results.toList (bodyOf Tryd.f6) := by kernel_rfl
theorem k6 : t6 := by
  unfold t6
  rintro ⟨l, _⟩ hx hp
  have hl : l.length ≤ 1048576 := by
    simp [ABulk, AK.bulk, Kd.bulk, sumOnes] at hp
    omega
  try dsimp +instances only [dft_int, dft_sl, dft_str]
  simp only [true_and, and_true, eq_self_iff_true, implies_true, reduceCtorEq, false_implies, true_implies, decide_eq_true_eq, decide_eq_false_iff_not, beq_self_eq_true, Bool.not_eq_true', ne_eq, Decidable.not_not, List.nil_append, List.length_singleton, List.length_cons, List.length_nil, Nat.zero_add, Nat.add_zero, Nat.mul_one, and_self, beq_iff_eq, Bool.not_true, Bool.not_false, Bool.not_eq_false', Bool.cond_false_right, Bool.and_eq_true, imp_self, Bool.not_eq_true, Bool.cond_true_left, Bool.or_eq_true]
  simp only [take_back]
  have hb : 0 ≤ (l.length : Int) ∧ (l.length : Int) ≤ ((l ++ [(90 : Int)]).length : Int) := ⟨by omega, by simp only [List.length_append, List.length_singleton]; omega⟩
  have hB : lenB l ≤ 100000000 := by rw [lenB]; omega
  refine ⟨by decide, by omega, by omega, by decide, by omega, by omega, hb, hB, ?_⟩
  rintro ⟨x, e, _⟩ _ h1
  refine ⟨hb, hB, ?_⟩
  rintro ⟨y, f, _⟩ _ h2
  refine ⟨hB, ?_⟩
  rintro ⟨w, g, _⟩ _ h3
  simp only at h1 h2 h3 ⊢
  obtain ⟨rfl, rfl⟩ := decQ_det h1 h3
  obtain ⟨rfl, rfl⟩ := decQ_det h2 h3
  have hxl := decQ_len h1
  refine ⟨fun _ => ⟨by trivial, by trivial, by trivial, ⟨by rw [lenA]; omega, by rw [lenA]; omega, by rw [lenA]; omega⟩, ?_⟩, fun h => h (by trivial)⟩
  rintro ⟨q, _⟩ _ hq
  have hq : q = true := hq (by trivial) (by trivial)
  subst hq
  rw [show bs { data := #[90] } = [(90 : Int)] by decide]
  exact ⟨fun h => ⟨h, by omega⟩, fun h => by simp at h⟩
theorem h6 : c_law12_NameDecodes.ok Tryd.prog GL 6 := con_ok (H := {}) (mkEnv_ok (gl := GL) (l := [(23, conSem c_name_Decode), (24, conSem c_r12_Decode), (20, conSem c_law12_own), (16, conSem c_law12_works)]) (q := []) (d := []) _ tyOk (by kernel_rfl) ⟨h23.call, h24.call, h20.call, h16.call, trivial⟩ trivial trivial) (by kernel_rfl) (by kernel_rfl) (Eq.mp e6 k6)

end Go.Proofs.YtcaekpbmmbfeiaaDoor
end
section
/- Contracts. -/
namespace Go.Proofs.YtcaekpbmmbfeiaaDoor
open Go Go.Vc Go.Pl Go.Proofs
set_option maxRecDepth 100000 in
theorem glOk {w : World} (hL : laidMetH Tryd.prog [("unicode/utf8.acceptRanges", Rows.laid_unicode_utf8_acceptRanges), ("unicode/utf8.first", Rows.laid_unicode_utf8_first)] w) (hS : w.ShapedOpen Tryd.prog) : GlOk GL w (fun _ => False) := by
  have hL : laidMet Tryd.prog [("unicode/utf8.acceptRanges", Rows.laid_unicode_utf8_acceptRanges), ("unicode/utf8.first", Rows.laid_unicode_utf8_first)] w := hL
  have h0 := Lib.laidMet.reads hL (n := "unicode/utf8.first") (d := Rows.laid_unicode_utf8_first) (by simp)
  have h1 := Lib.laidMet.reads hL (n := "unicode/utf8.acceptRanges") (d := Rows.laid_unicode_utf8_acceptRanges) (by simp)
  obtain ⟨m, hm⟩ := Tryd.laysM219.s1_3 w hS
  have hm : w.cell? ⟨0, 0, none⟩ = some (.int .i64 m) := hm
  obtain ⟨fs, hs, hf, ho⟩ := pairB_eq (P := Tryd.prog) (e := 156) (k := .u8) (by kernel_rfl)
  have k0 := gl_ints (P := Tryd.prog) (w := w) (g := 1) (t := 154) (e := 5) (n := 256) (k := .u8) (zs := Lib.firstTab) (by kernel_rfl) (by kernel_rfl) (by kernel_rfl) (by kernel_rfl) (by kernel_rfl) (by kernel_rfl) (by kernel_rfl) (of_decide_eq_true (by kernel_rfl)) (by kernel_rfl) h0
  have k1 := gl_pairs (P := Tryd.prog) (w := w) (g := 2) (t := 157) (e := 156) (n := 16) (k := .u8) (zs := accTab) (by kernel_rfl) (by kernel_rfl) (by kernel_rfl) hs hf ho (by kernel_rfl) (by kernel_rfl) (by kernel_rfl) (of_decide_eq_true (by kernel_rfl)) (by kernel_rfl) (by kernel_rfl) h1
  intro g v hg
  rcases gl_cons hg with ⟨rfl, rfl⟩ | hg
  · exact k0
  rcases gl_cons hg with ⟨rfl, rfl⟩ | hg
  · exact k1
  obtain ⟨rfl, rfl⟩ := gl_one hg
  exact ⟨cell_lt hm, id, m, hm⟩

end Go.Proofs.YtcaekpbmmbfeiaaDoor
end
section
/- Walks. -/
namespace Go.Proofs.YtcaekpbmmbfeiaaDoor
open Go Go.Vc Go.Pl Go.Proofs
end Go.Proofs.YtcaekpbmmbfeiaaDoor
end
