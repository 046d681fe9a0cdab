/- Texts of a verified walk, led together: DerA, DerW, DerrA, DerrW, OidA, OidW. -/
import Derived.Test.YtcaekpbmmbfeiaaDoorZW03
import Derived.Test.YtcaekpbmmbfeiaaDoorZV09
import Derived.Test.YtcaekpbmmbfeiaaDoorZV08
set_option linter.unusedVariables false
set_option linter.unusedSimpArgs false
section
/- Contracts. -/
namespace Go.Proofs.YtcaekpbmmbfeiaaDoor
open Go Go.Vc Go.Pl Go.Proofs
def c_der_isTag : Con := { args := [.dat I64], res := [.dat .bool], pre := fun _ => True, post := fun x y => y.1 = isTagD x.1 }
def c_der_length : Con := { args := [.dat I64], res := [.own 5 U8], pre := fun x => 0 ≤ x.1 ∧ x.1 ≤ 16777215, post := fun x y => y.1 = lngD x.1 }
def c_slices_Clone_byte_byte : Con := { args := [.dat BY], res := [.dat BY], pre := fun x => lenB x.1 ≤ 1000000000, post := fun x y => y.1 = x.1 }
def c_slices_Concat_byte_byte : Con := { args := [.dat (.sl BY)], res := [.own 5 U8], pre := fun x => lenF x.1 ≤ 1000000000, post := fun x y => y.1 = x.1.flatten }
def c_der_Put : Con := { args := [.dat BY, .dat I64, .dat (.sl BY)], res := [.own 5 U8, .dat I64], pre := fun x => lenB x.1 ≤ 900000000, post := fun x y => (y.1, y.2.1) = PutD x.1 x.2.1 x.2.2.1.flatten }
def c_der_head : Con := { args := [.dat BY], res := [.dat I64, .dat I64, .dat I64, .dat I64], pre := fun x => lenB x.1 ≤ 1000000000, post := fun x y => (y.1, y.2.1, y.2.2.1, y.2.2.2.1) = headK x.1 }
def c_der_Take : Con := { args := [.dat BY], res := [.dat ET, .dat I64, .dat I64], pre := fun x => lenB x.1 ≤ 1000000000, post := fun x y => (y.1, y.2.1, y.2.2.1) = takeD x.1 }
def c_der_One : Con := { args := [.dat BY], res := [.dat ET, .dat I64], pre := fun x => lenB x.1 ≤ 1000000000, post := fun x y => (y.1, y.2.1) = oneD x.1 }
def c_der_Size : Con := { args := [.dat I64], res := [.dat I64], pre := fun _ => True, post := fun x y => y.1 = sizeD x.1 }
def c_der_All : Con := { args := [.dat BY], res := [.own 68 ET, .dat I64, .dat I64], pre := fun x => lenB x.1 ≤ 1000000000, post := fun x y => (y.1, y.2.1, y.2.2.1) = allD x.1 }

end Go.Proofs.YtcaekpbmmbfeiaaDoor
end
section
/- Walks. -/
namespace Go.Proofs.YtcaekpbmmbfeiaaDoor
open Go Go.Vc Go.Pl Go.Proofs
set_option linter.unusedVariables false
set_option linter.unusedSimpArgs false
def t96 : Prop :=
  ∀ (x : Int × Unit), Kd.wf (Kd.int IntKind.i64) x.fst ∧ True → True → (decide ((0 : Int) ≤ x.fst) = true → True) ∧ (decide ((0 : Int) ≤ x.fst) = true → (decide ((0 : Int) ≤ x.fst) == true) =
  true ∧ True) ∧ (decide ((0 : Int) ≤ x.fst) = true → (decide ((0 : Int) ≤ x.fst) == true) = true) ∧ ((bif decide ((0 : Int) ≤ x.fst) then decide (x.fst ≤ (255 : Int)) else false) = true →
  True) ∧ ((bif decide ((0 : Int) ≤ x.fst) then decide (x.fst ≤ (255 : Int)) else false) = true → ((bif decide ((0 : Int) ≤ x.fst) then decide (x.fst ≤ (255 : Int)) else false) == true) =
  true ∧ True) ∧ ((bif decide ((0 : Int) ≤ x.fst) then decide (x.fst ≤ (255 : Int)) else false) = true → ((bif decide ((0 : Int) ≤ x.fst) then decide (x.fst ≤ (255 : Int)) else false) ==
  true) = true ∧ True) ∧ ((bif decide ((0 : Int) ≤ x.fst) then decide (x.fst ≤ (255 : Int)) else false) = true → ((bif decide ((0 : Int) ≤ x.fst) then decide (x.fst ≤ (255 : Int)) else false)
  == true) = true) ∧ (bif bif decide ((0 : Int) ≤ x.fst) then decide (x.fst ≤ (255 : Int)) else false then decide (IntKind.wrap IntKind.i64 (↑(BitVec.toNat (BitVec.ofInt (64 : Nat) x.fst &&&
  BitVec.ofInt (64 : Nat) (31 : Int))) : Int) ≠ (31 : Int)) else false) = isTagD x.fst
theorem e96 : t96 = Con.vc c_der_isTag GL (mkEnv ty [] [] [] [0, 2]) {} Tryd.f96.ntmps Tryd.f96.results.toList (bodyOf Tryd.f96) := by kernel_rfl
theorem k96 : t96 := by
  unfold t96
  rintro ⟨t, _⟩ hx hp
  try dsimp +instances only [dft_int, dft_sl, dft_str]
  simp only [true_and, and_true, eq_self_iff_true, implies_true, reduceCtorEq, false_implies, true_implies, decide_eq_true_eq, decide_eq_false_iff_not, beq_self_eq_true, Bool.not_eq_true', ne_eq, Decidable.not_not, List.nil_append, List.length_singleton, List.length_cons, List.length_nil, Nat.zero_add, Nat.add_zero, Nat.mul_one, and_self, beq_iff_eq, Bool.not_true, Bool.not_false, Bool.not_eq_false', Bool.cond_false_right, Bool.and_eq_true, imp_self, Bool.not_eq_true, Bool.cond_true_left, Bool.or_eq_true]
  exact isTag_eq t
theorem h96 : c_der_isTag.ok Tryd.prog GL 96 := con_ok (H := {}) (mkEnv_ok (gl := GL) (l := []) (q := []) (d := []) _ tyOk (by kernel_rfl) trivial trivial trivial) (by kernel_rfl) (by kernel_rfl) (Eq.mp e96 k96)

def t89 : Prop :=
  ∀ (x : Int × Unit), Kd.wf (Kd.int IntKind.i64) x.fst ∧ True → (0 : Int) ≤ x.fst ∧ x.fst ≤ (16777215 : Int) → (decide (x.fst < (128 : Int)) = true → [IntKind.wrap IntKind.u8 x.fst] = lngD
  x.fst) ∧ (decide (x.fst < (128 : Int)) = false → (decide (x.fst < (256 : Int)) = true → [(129 : Int), IntKind.wrap IntKind.u8 x.fst] = lngD x.fst) ∧ (decide (x.fst < (256 : Int)) = false →
  (decide (x.fst < (65536 : Int)) = true → (0 : Int) ≤ (8 : Int) ∧ [(130 : Int), IntKind.wrap IntKind.u8 (Int.fdiv x.fst ((2 : Int) ^ (8 : Nat))), IntKind.wrap IntKind.u8 x.fst] = lngD x.fst)
  ∧ (decide (x.fst < (65536 : Int)) = false → (0 : Int) ≤ (16 : Int) ∧ (0 : Int) ≤ (8 : Int) ∧ [(131 : Int), IntKind.wrap IntKind.u8 (Int.fdiv x.fst ((2 : Int) ^ (16 : Nat))), IntKind.wrap
  IntKind.u8 (Int.fdiv x.fst ((2 : Int) ^ (8 : Nat))), IntKind.wrap IntKind.u8 x.fst] = lngD x.fst)))
theorem e89 : t89 = Con.vc c_der_length GL (mkEnv ty [] [] [] [0, 2, 3, 9, 15]) {} Tryd.f89.ntmps Tryd.f89.results.toList (bodyOf Tryd.f89) := by kernel_rfl
theorem k89 : t89 := by
  unfold t89
  rintro ⟨n, _⟩ hx hp
  obtain ⟨h0, h1⟩ := hp
  simp only at h0 h1
  try dsimp +instances only [dft_int, dft_sl, dft_str]
  simp only [true_and, and_true, eq_self_iff_true, implies_true, reduceCtorEq, false_implies, true_implies, decide_eq_true_eq, decide_eq_false_iff_not, beq_self_eq_true, Bool.not_eq_true', ne_eq, Decidable.not_not, List.nil_append, List.length_singleton, List.length_cons, List.length_nil, Nat.zero_add, Nat.add_zero, Nat.mul_one, and_self, beq_iff_eq, Bool.not_true, Bool.not_false, Bool.not_eq_false', Bool.cond_false_right, Bool.and_eq_true, imp_self, Bool.not_eq_true, Bool.cond_true_left, Bool.or_eq_true]
  have e8 := (fdiv_pow h0).1
  have e16 := (fdiv_pow h0).2
  rw [e8, e16, wrap_u8m, wrap_u8m, wrap_u8m]
  refine ⟨fun h => ?_, fun h => ⟨fun h2 => ?_, fun h2 => ⟨fun h3 => ⟨by decide, ?_⟩, fun h3 => ⟨by decide, by decide, ?_⟩⟩⟩⟩
  · rw [lngD, if_pos h, show n % 256 = n by omega]
  · rw [lngD, if_neg h, if_pos h2, show n % 256 = n by omega]
  · rw [lngD, if_neg h, if_neg h2, if_pos h3, show n / 256 % 256 = n / 256 by omega]
  · rw [lngD, if_neg h, if_neg h2, if_neg h3, show n / 65536 % 256 = n / 65536 by omega]
theorem h89 : c_der_length.ok Tryd.prog GL 89 := con_ok (H := {}) (mkEnv_ok (gl := GL) (l := []) (q := []) (d := []) _ tyOk (by kernel_rfl) trivial trivial trivial) (by kernel_rfl) (by kernel_rfl) (Eq.mp e89 k89)

def t87 : Prop :=
  ∀ (x : List Int × Unit), Kd.wf (Kd.sl (Kd.int IntKind.u8)) x.fst ∧ True → lenB x.fst ≤ (1000000000 : Nat) → ∀ (b : Bool), (b = true → x.fst = []) → (b = true → [] = x.fst) ∧ (b = false → (0
  : Nat) < (1 : Nat) ∧ ((0 : Nat) + List.length x.fst) * (1 : Nat) ≤ (140737488355328 : Nat) ∧ (0 : Nat) + List.length x.fst ≤ (9223372036854775807 : Nat) ∧ [] ++ x.fst = x.fst)
theorem e87 : t87 = Con.vc c_slices_Clone_byte_byte GL (mkEnv ty [] [] [] [0, 2, 4]) {} Tryd.f87.ntmps Tryd.f87.results.toList (bodyOf Tryd.f87) := by kernel_rfl
theorem k87 : t87 := by
  unfold t87
  rintro ⟨l, _⟩ hx hp
  have hp : l.length ≤ 1000000000 := hp
  try dsimp +instances only [dft_int, dft_sl, dft_str]
  simp only [true_and, and_true, eq_self_iff_true, implies_true, reduceCtorEq, false_implies, true_implies, decide_eq_true_eq, decide_eq_false_iff_not, beq_self_eq_true, Bool.not_eq_true', ne_eq, Decidable.not_not, List.nil_append, List.length_singleton, List.length_cons, List.length_nil, Nat.zero_add, Nat.add_zero, Nat.mul_one, and_self, beq_iff_eq, Bool.not_true, Bool.not_false, Bool.not_eq_false', Bool.cond_false_right, Bool.and_eq_true, imp_self, Bool.not_eq_true, Bool.cond_true_left, Bool.or_eq_true]
  intro b hb
  exact ⟨fun h => (hb h).symm, fun _ => ⟨by decide, by omega, by omega⟩⟩
theorem h87 : c_slices_Clone_byte_byte.ok Tryd.prog GL 87 := con_ok (H := {}) (mkEnv_ok (gl := GL) (l := []) (q := []) (d := []) _ tyOk (by kernel_rfl) trivial trivial trivial) (by kernel_rfl) (by kernel_rfl) (Eq.mp e87 k87)

def t86 : Prop :=
  ∀ (x : List Int × Unit), Kd.wf (Kd.sl (Kd.int IntKind.u8)) x.fst ∧ True → lenB x.fst ≤ (1000000000 : Nat) → (decide ((↑(List.length x.fst) : Int) = (0 : Int)) = true → ((0 : Int), (0 :
  Int), (0 : Int), (10 : Int)) = headK x.fst) ∧ (decide ((↑(List.length x.fst) : Int) = (0 : Int)) = false → ((0 : Int) ≤ (0 : Int) ∧ (0 : Int) < (↑(List.length x.fst) : Int)) ∧ True ∧ (∀ (y
  : Bool × Unit), Kd.wf Kd.bool y.fst ∧ True → y.fst = isTagD (IntKind.wrap IntKind.i64 (List.getD x.fst (0 : Nat) (Kd.dft (Kd.int IntKind.u8)))) → ((!y.fst) = true → ((0 : Int), (0 : Int),
  (0 : Int), (11 : Int)) = headK x.fst) ∧ ((!y.fst) = false → (decide ((↑(List.length x.fst) : Int) = (1 : Int)) = true → ((0 : Int), (0 : Int), (0 : Int), (10 : Int)) = headK x.fst) ∧
  (decide ((↑(List.length x.fst) : Int) = (1 : Int)) = false → ((0 : Int) ≤ (1 : Int) ∧ (1 : Int) < (↑(List.length x.fst) : Int)) ∧ (decide (IntKind.wrap IntKind.i64 (IntKind.wrap IntKind.i64
  (List.getD x.fst (1 : Nat) (Kd.dft (Kd.int IntKind.u8))) - (128 : Int)) < (0 : Int)) = true → ((0 : Int) ≤ (0 : Int) ∧ (0 : Int) < (↑(List.length x.fst) : Int)) ∧ ((0 : Int) ≤ (1 : Int) ∧
  (1 : Int) < (↑(List.length x.fst) : Int)) ∧ (IntKind.wrap IntKind.i64 (List.getD x.fst (0 : Nat) (Kd.dft (Kd.int IntKind.u8))), (2 : Int), IntKind.wrap IntKind.i64 (List.getD x.fst (1 :
  Nat) (Kd.dft (Kd.int IntKind.u8))), (0 : Int)) = headK x.fst) ∧ (decide (IntKind.wrap IntKind.i64 (IntKind.wrap IntKind.i64 (List.getD x.fst (1 : Nat) (Kd.dft (Kd.int IntKind.u8))) - (128 :
  Int)) < (0 : Int)) = false → (decide (IntKind.wrap IntKind.i64 (IntKind.wrap IntKind.i64 (List.getD x.fst (1 : Nat) (Kd.dft (Kd.int IntKind.u8))) - (128 : Int)) = (0 : Int)) = false → True)
  ∧ (decide (IntKind.wrap IntKind.i64 (IntKind.wrap IntKind.i64 (List.getD x.fst (1 : Nat) (Kd.dft (Kd.int IntKind.u8))) - (128 : Int)) = (0 : Int)) = false → (decide (IntKind.wrap
  IntKind.i64 (IntKind.wrap IntKind.i64 (List.getD x.fst (1 : Nat) (Kd.dft (Kd.int IntKind.u8))) - (128 : Int)) = (0 : Int)) == false) = true ∧ True) ∧ (decide (IntKind.wrap IntKind.i64
  (IntKind.wrap IntKind.i64 (List.getD x.fst (1 : Nat) (Kd.dft (Kd.int IntKind.u8))) - (128 : Int)) = (0 : Int)) = false → (decide (IntKind.wrap IntKind.i64 (IntKind.wrap IntKind.i64
  (List.getD x.fst (1 : Nat) (Kd.dft (Kd.int IntKind.u8))) - (128 : Int)) = (0 : Int)) == false) = true) ∧ ((bif decide (IntKind.wrap IntKind.i64 (IntKind.wrap IntKind.i64 (List.getD x.fst (1
  : Nat) (Kd.dft (Kd.int IntKind.u8))) - (128 : Int)) = (0 : Int)) then true else decide ((3 : Int) < IntKind.wrap IntKind.i64 (IntKind.wrap IntKind.i64 (List.getD x.fst (1 : Nat) (Kd.dft
  (Kd.int IntKind.u8))) - (128 : Int)))) = false → True) ∧ ((bif decide (IntKind.wrap IntKind.i64 (IntKind.wrap IntKind.i64 (List.getD x.fst (1 : Nat) (Kd.dft (Kd.int IntKind.u8))) - (128 :
  Int)) = (0 : Int)) then true else decide ((3 : Int) < IntKind.wrap IntKind.i64 (IntKind.wrap IntKind.i64 (List.getD x.fst (1 : Nat) (Kd.dft (Kd.int IntKind.u8))) - (128 : Int)))) = false →
  ((bif decide (IntKind.wrap IntKind.i64 (IntKind.wrap IntKind.i64 (List.getD x.fst (1 : Nat) (Kd.dft (Kd.int IntKind.u8))) - (128 : Int)) = (0 : Int)) then true else decide ((3 : Int) <
  IntKind.wrap IntKind.i64 (IntKind.wrap IntKind.i64 (List.getD x.fst (1 : Nat) (Kd.dft (Kd.int IntKind.u8))) - (128 : Int)))) == false) = true ∧ True) ∧ ((bif decide (IntKind.wrap
  IntKind.i64 (IntKind.wrap IntKind.i64 (List.getD x.fst (1 : Nat) (Kd.dft (Kd.int IntKind.u8))) - (128 : Int)) = (0 : Int)) then true else decide ((3 : Int) < IntKind.wrap IntKind.i64
  (IntKind.wrap IntKind.i64 (List.getD x.fst (1 : Nat) (Kd.dft (Kd.int IntKind.u8))) - (128 : Int)))) = false → ((bif decide (IntKind.wrap IntKind.i64 (IntKind.wrap IntKind.i64 (List.getD
  x.fst (1 : Nat) (Kd.dft (Kd.int IntKind.u8))) - (128 : Int)) = (0 : Int)) then true else decide ((3 : Int) < IntKind.wrap IntKind.i64 (IntKind.wrap IntKind.i64 (List.getD x.fst (1 : Nat)
  (Kd.dft (Kd.int IntKind.u8))) - (128 : Int)))) == false) = true ∧ True) ∧ ((bif decide (IntKind.wrap IntKind.i64 (IntKind.wrap IntKind.i64 (List.getD x.fst (1 : Nat) (Kd.dft (Kd.int
  IntKind.u8))) - (128 : Int)) = (0 : Int)) then true else decide ((3 : Int) < IntKind.wrap IntKind.i64 (IntKind.wrap IntKind.i64 (List.getD x.fst (1 : Nat) (Kd.dft (Kd.int IntKind.u8))) -
  (128 : Int)))) = false → True) ∧ (((bif decide (IntKind.wrap IntKind.i64 (IntKind.wrap IntKind.i64 (List.getD x.fst (1 : Nat) (Kd.dft (Kd.int IntKind.u8))) - (128 : Int)) = (0 : Int)) then
  true else decide ((3 : Int) < IntKind.wrap IntKind.i64 (IntKind.wrap IntKind.i64 (List.getD x.fst (1 : Nat) (Kd.dft (Kd.int IntKind.u8))) - (128 : Int)))) == false && (bif decide
  (IntKind.wrap IntKind.i64 (IntKind.wrap IntKind.i64 (List.getD x.fst (1 : Nat) (Kd.dft (Kd.int IntKind.u8))) - (128 : Int)) = (0 : Int)) then true else decide ((3 : Int) < IntKind.wrap
  IntKind.i64 (IntKind.wrap IntKind.i64 (List.getD x.fst (1 : Nat) (Kd.dft (Kd.int IntKind.u8))) - (128 : Int)))) == false) = true → decide ((2 : Int) < (↑(List.length x.fst) : Int)) = true →
  True) ∧ (((bif decide (IntKind.wrap IntKind.i64 (IntKind.wrap IntKind.i64 (List.getD x.fst (1 : Nat) (Kd.dft (Kd.int IntKind.u8))) - (128 : Int)) = (0 : Int)) then true else decide ((3 :
  Int) < IntKind.wrap IntKind.i64 (IntKind.wrap IntKind.i64 (List.getD x.fst (1 : Nat) (Kd.dft (Kd.int IntKind.u8))) - (128 : Int)))) == false && (bif decide (IntKind.wrap IntKind.i64
  (IntKind.wrap IntKind.i64 (List.getD x.fst (1 : Nat) (Kd.dft (Kd.int IntKind.u8))) - (128 : Int)) = (0 : Int)) then true else decide ((3 : Int) < IntKind.wrap IntKind.i64 (IntKind.wrap
  IntKind.i64 (List.getD x.fst (1 : Nat) (Kd.dft (Kd.int IntKind.u8))) - (128 : Int)))) == false) = true → decide ((2 : Int) < (↑(List.length x.fst) : Int)) = true → ((bif decide
  (IntKind.wrap IntKind.i64 (IntKind.wrap IntKind.i64 (List.getD x.fst (1 : Nat) (Kd.dft (Kd.int IntKind.u8))) - (128 : Int)) = (0 : Int)) then true else decide ((3 : Int) < IntKind.wrap
  IntKind.i64 (IntKind.wrap IntKind.i64 (List.getD x.fst (1 : Nat) (Kd.dft (Kd.int IntKind.u8))) - (128 : Int)))) == false && (bif decide (IntKind.wrap IntKind.i64 (IntKind.wrap IntKind.i64
  (List.getD x.fst (1 : Nat) (Kd.dft (Kd.int IntKind.u8))) - (128 : Int)) = (0 : Int)) then true else decide ((3 : Int) < IntKind.wrap IntKind.i64 (IntKind.wrap IntKind.i64 (List.getD x.fst
  (1 : Nat) (Kd.dft (Kd.int IntKind.u8))) - (128 : Int)))) == false && decide ((2 : Int) < (↑(List.length x.fst) : Int)) == true) = true ∧ ((0 : Int) ≤ (2 : Int) ∧ (2 : Int) < (↑(List.length
  x.fst) : Int)) ∧ True) ∧ (((bif decide (IntKind.wrap IntKind.i64 (IntKind.wrap IntKind.i64 (List.getD x.fst (1 : Nat) (Kd.dft (Kd.int IntKind.u8))) - (128 : Int)) = (0 : Int)) then true
  else decide ((3 : Int) < IntKind.wrap IntKind.i64 (IntKind.wrap IntKind.i64 (List.getD x.fst (1 : Nat) (Kd.dft (Kd.int IntKind.u8))) - (128 : Int)))) == false && (bif decide (IntKind.wrap
  IntKind.i64 (IntKind.wrap IntKind.i64 (List.getD x.fst (1 : Nat) (Kd.dft (Kd.int IntKind.u8))) - (128 : Int)) = (0 : Int)) then true else decide ((3 : Int) < IntKind.wrap IntKind.i64
  (IntKind.wrap IntKind.i64 (List.getD x.fst (1 : Nat) (Kd.dft (Kd.int IntKind.u8))) - (128 : Int)))) == false) = true → decide ((2 : Int) < (↑(List.length x.fst) : Int)) = true → ((bif
  decide (IntKind.wrap IntKind.i64 (IntKind.wrap IntKind.i64 (List.getD x.fst (1 : Nat) (Kd.dft (Kd.int IntKind.u8))) - (128 : Int)) = (0 : Int)) then true else decide ((3 : Int) <
  IntKind.wrap IntKind.i64 (IntKind.wrap IntKind.i64 (List.getD x.fst (1 : Nat) (Kd.dft (Kd.int IntKind.u8))) - (128 : Int)))) == false && (bif decide (IntKind.wrap IntKind.i64 (IntKind.wrap
  IntKind.i64 (List.getD x.fst (1 : Nat) (Kd.dft (Kd.int IntKind.u8))) - (128 : Int)) = (0 : Int)) then true else decide ((3 : Int) < IntKind.wrap IntKind.i64 (IntKind.wrap IntKind.i64
  (List.getD x.fst (1 : Nat) (Kd.dft (Kd.int IntKind.u8))) - (128 : Int)))) == false && decide ((2 : Int) < (↑(List.length x.fst) : Int)) == true) = true ∧ True) ∧ (((bif decide (IntKind.wrap
  IntKind.i64 (IntKind.wrap IntKind.i64 (List.getD x.fst (1 : Nat) (Kd.dft (Kd.int IntKind.u8))) - (128 : Int)) = (0 : Int)) then true else decide ((3 : Int) < IntKind.wrap IntKind.i64
  (IntKind.wrap IntKind.i64 (List.getD x.fst (1 : Nat) (Kd.dft (Kd.int IntKind.u8))) - (128 : Int)))) == false && (bif decide (IntKind.wrap IntKind.i64 (IntKind.wrap IntKind.i64 (List.getD
  x.fst (1 : Nat) (Kd.dft (Kd.int IntKind.u8))) - (128 : Int)) = (0 : Int)) then true else decide ((3 : Int) < IntKind.wrap IntKind.i64 (IntKind.wrap IntKind.i64 (List.getD x.fst (1 : Nat)
  (Kd.dft (Kd.int IntKind.u8))) - (128 : Int)))) == false) = true → decide ((2 : Int) < (↑(List.length x.fst) : Int)) = true → ((bif decide (IntKind.wrap IntKind.i64 (IntKind.wrap IntKind.i64
  (List.getD x.fst (1 : Nat) (Kd.dft (Kd.int IntKind.u8))) - (128 : Int)) = (0 : Int)) then true else decide ((3 : Int) < IntKind.wrap IntKind.i64 (IntKind.wrap IntKind.i64 (List.getD x.fst
  (1 : Nat) (Kd.dft (Kd.int IntKind.u8))) - (128 : Int)))) == false && (bif decide (IntKind.wrap IntKind.i64 (IntKind.wrap IntKind.i64 (List.getD x.fst (1 : Nat) (Kd.dft (Kd.int IntKind.u8)))
  - (128 : Int)) = (0 : Int)) then true else decide ((3 : Int) < IntKind.wrap IntKind.i64 (IntKind.wrap IntKind.i64 (List.getD x.fst (1 : Nat) (Kd.dft (Kd.int IntKind.u8))) - (128 : Int))))
  == false && decide ((2 : Int) < (↑(List.length x.fst) : Int)) == true) = true ∧ True) ∧ ((bif decide (IntKind.wrap IntKind.i64 (IntKind.wrap IntKind.i64 (List.getD x.fst (1 : Nat) (Kd.dft
  (Kd.int IntKind.u8))) - (128 : Int)) = (0 : Int)) then true else decide ((3 : Int) < IntKind.wrap IntKind.i64 (IntKind.wrap IntKind.i64 (List.getD x.fst (1 : Nat) (Kd.dft (Kd.int
  IntKind.u8))) - (128 : Int)))) = false → ((bif decide (IntKind.wrap IntKind.i64 (IntKind.wrap IntKind.i64 (List.getD x.fst (1 : Nat) (Kd.dft (Kd.int IntKind.u8))) - (128 : Int)) = (0 :
  Int)) then true else decide ((3 : Int) < IntKind.wrap IntKind.i64 (IntKind.wrap IntKind.i64 (List.getD x.fst (1 : Nat) (Kd.dft (Kd.int IntKind.u8))) - (128 : Int)))) == false && (bif decide
  (IntKind.wrap IntKind.i64 (IntKind.wrap IntKind.i64 (List.getD x.fst (1 : Nat) (Kd.dft (Kd.int IntKind.u8))) - (128 : Int)) = (0 : Int)) then true else decide ((3 : Int) < IntKind.wrap
  IntKind.i64 (IntKind.wrap IntKind.i64 (List.getD x.fst (1 : Nat) (Kd.dft (Kd.int IntKind.u8))) - (128 : Int)))) == false) = true ∧ (decide ((2 : Int) < (↑(List.length x.fst) : Int)) = true
  → ((bif decide (IntKind.wrap IntKind.i64 (IntKind.wrap IntKind.i64 (List.getD x.fst (1 : Nat) (Kd.dft (Kd.int IntKind.u8))) - (128 : Int)) = (0 : Int)) then true else decide ((3 : Int) <
  IntKind.wrap IntKind.i64 (IntKind.wrap IntKind.i64 (List.getD x.fst (1 : Nat) (Kd.dft (Kd.int IntKind.u8))) - (128 : Int)))) == false && (bif decide (IntKind.wrap IntKind.i64 (IntKind.wrap
  IntKind.i64 (List.getD x.fst (1 : Nat) (Kd.dft (Kd.int IntKind.u8))) - (128 : Int)) = (0 : Int)) then true else decide ((3 : Int) < IntKind.wrap IntKind.i64 (IntKind.wrap IntKind.i64
  (List.getD x.fst (1 : Nat) (Kd.dft (Kd.int IntKind.u8))) - (128 : Int)))) == false && decide ((2 : Int) < (↑(List.length x.fst) : Int)) == true) = true) ∧ True) ∧ ((bif decide (IntKind.wrap
  IntKind.i64 (IntKind.wrap IntKind.i64 (List.getD x.fst (1 : Nat) (Kd.dft (Kd.int IntKind.u8))) - (128 : Int)) = (0 : Int)) then true else decide ((3 : Int) < IntKind.wrap IntKind.i64
  (IntKind.wrap IntKind.i64 (List.getD x.fst (1 : Nat) (Kd.dft (Kd.int IntKind.u8))) - (128 : Int)))) = false → ((bif decide (IntKind.wrap IntKind.i64 (IntKind.wrap IntKind.i64 (List.getD
  x.fst (1 : Nat) (Kd.dft (Kd.int IntKind.u8))) - (128 : Int)) = (0 : Int)) then true else decide ((3 : Int) < IntKind.wrap IntKind.i64 (IntKind.wrap IntKind.i64 (List.getD x.fst (1 : Nat)
  (Kd.dft (Kd.int IntKind.u8))) - (128 : Int)))) == false) = true) ∧ ((bif bif decide (IntKind.wrap IntKind.i64 (IntKind.wrap IntKind.i64 (List.getD x.fst (1 : Nat) (Kd.dft (Kd.int
  IntKind.u8))) - (128 : Int)) = (0 : Int)) then true else decide ((3 : Int) < IntKind.wrap IntKind.i64 (IntKind.wrap IntKind.i64 (List.getD x.fst (1 : Nat) (Kd.dft (Kd.int IntKind.u8))) -
  (128 : Int))) then true else bif decide ((2 : Int) < (↑(List.length x.fst) : Int)) then decide (List.getD x.fst (2 : Nat) (Kd.dft (Kd.int IntKind.u8)) = (0 : Int)) else false) = true → ((0
  : Int), (0 : Int), (0 : Int), (12 : Int)) = headK x.fst) ∧ ((bif bif decide (IntKind.wrap IntKind.i64 (IntKind.wrap IntKind.i64 (List.getD x.fst (1 : Nat) (Kd.dft (Kd.int IntKind.u8))) -
  (128 : Int)) = (0 : Int)) then true else decide ((3 : Int) < IntKind.wrap IntKind.i64 (IntKind.wrap IntKind.i64 (List.getD x.fst (1 : Nat) (Kd.dft (Kd.int IntKind.u8))) - (128 : Int))) then
  true else bif decide ((2 : Int) < (↑(List.length x.fst) : Int)) then decide (List.getD x.fst (2 : Nat) (Kd.dft (Kd.int IntKind.u8)) = (0 : Int)) else false) = false → (decide
  ((↑(List.length x.fst) : Int) < IntKind.wrap IntKind.i64 ((2 : Int) + IntKind.wrap IntKind.i64 (IntKind.wrap IntKind.i64 (List.getD x.fst (1 : Nat) (Kd.dft (Kd.int IntKind.u8))) - (128 :
  Int)))) = true → ((0 : Int), (0 : Int), (0 : Int), (10 : Int)) = headK x.fst) ∧ (decide ((↑(List.length x.fst) : Int) < IntKind.wrap IntKind.i64 ((2 : Int) + IntKind.wrap IntKind.i64
  (IntKind.wrap IntKind.i64 (List.getD x.fst (1 : Nat) (Kd.dft (Kd.int IntKind.u8))) - (128 : Int)))) = false → ((0 : Int) ≤ (2 : Int) ∧ (2 : Int) ≤ IntKind.wrap IntKind.i64 ((2 : Int) +
  IntKind.wrap IntKind.i64 (IntKind.wrap IntKind.i64 (List.getD x.fst (1 : Nat) (Kd.dft (Kd.int IntKind.u8))) - (128 : Int))) ∧ IntKind.wrap IntKind.i64 ((2 : Int) + IntKind.wrap IntKind.i64
  (IntKind.wrap IntKind.i64 (List.getD x.fst (1 : Nat) (Kd.dft (Kd.int IntKind.u8))) - (128 : Int))) ≤ (↑(List.length x.fst) : Int)) ∧ ∃ (I : Int × Int × Unit → Unit → Prop), ∃ (μ : Int × Int
  × Unit → Unit → Nat), ((↑(List.length (List.drop (2 : Nat) (List.take (Int.toNat (IntKind.wrap IntKind.i64 ((2 : Int) + IntKind.wrap IntKind.i64 (IntKind.wrap IntKind.i64 (List.getD x.fst
  (1 : Nat) (Kd.dft (Kd.int IntKind.u8))) - (128 : Int))))) x.fst))) : Int) = (↑(List.length (List.drop (2 : Nat) (List.take (Int.toNat (IntKind.wrap IntKind.i64 ((2 : Int) + IntKind.wrap
  IntKind.i64 (IntKind.wrap IntKind.i64 (List.getD x.fst (1 : Nat) (Kd.dft (Kd.int IntKind.u8))) - (128 : Int))))) x.fst))) : Int) ∧ List.drop (2 : Nat) (List.take (Int.toNat (IntKind.wrap
  IntKind.i64 ((2 : Int) + IntKind.wrap IntKind.i64 (IntKind.wrap IntKind.i64 (List.getD x.fst (1 : Nat) (Kd.dft (Kd.int IntKind.u8))) - (128 : Int))))) x.fst) = List.drop (2 : Nat)
  (List.take (Int.toNat (IntKind.wrap IntKind.i64 ((2 : Int) + IntKind.wrap IntKind.i64 (IntKind.wrap IntKind.i64 (List.getD x.fst (1 : Nat) (Kd.dft (Kd.int IntKind.u8))) - (128 : Int)))))
  x.fst) ∧ Value.bool false = Value.bool false ∧ Value.bool false = Value.bool false ∧ Value.bool false = Value.bool false ∧ IntKind.wrap IntKind.i64 (IntKind.wrap IntKind.i64 (List.getD
  x.fst (1 : Nat) (Kd.dft (Kd.int IntKind.u8))) - (128 : Int)) = IntKind.wrap IntKind.i64 (IntKind.wrap IntKind.i64 (List.getD x.fst (1 : Nat) (Kd.dft (Kd.int IntKind.u8))) - (128 : Int)) ∧
  Value.bool false = Value.bool false ∧ Value.bool false = Value.bool false ∧ Value.bool false = Value.bool false ∧ (0 : Int) = (0 : Int) ∧ (0 : Int) = (0 : Int) ∧ (0 : Int) = (0 : Int) ∧
  x.fst = x.fst ∧ I ((0 : Int), (0 : Int), ()) ()) ∧ ∀ (y : Int × Int × Unit) (z : Unit), Kd.wf (Kd.int IntKind.i64) y.fst ∧ Kd.wf (Kd.int IntKind.i64) y.snd.fst ∧ True → True → I y z →
  (decide (y.fst < (↑(List.length (List.drop (2 : Nat) (List.take (Int.toNat (IntKind.wrap IntKind.i64 ((2 : Int) + IntKind.wrap IntKind.i64 (IntKind.wrap IntKind.i64 (List.getD x.fst (1 :
  Nat) (Kd.dft (Kd.int IntKind.u8))) - (128 : Int))))) x.fst))) : Int)) = true → ((0 : Int) ≤ y.fst ∧ y.fst < (↑(List.length (List.drop (2 : Nat) (List.take (Int.toNat (IntKind.wrap
  IntKind.i64 ((2 : Int) + IntKind.wrap IntKind.i64 (IntKind.wrap IntKind.i64 (List.getD x.fst (1 : Nat) (Kd.dft (Kd.int IntKind.u8))) - (128 : Int))))) x.fst))) : Int)) ∧ (0 : Int) ≤ (8 :
  Int) ∧ (↑(List.length (List.drop (2 : Nat) (List.take (Int.toNat (IntKind.wrap IntKind.i64 ((2 : Int) + IntKind.wrap IntKind.i64 (IntKind.wrap IntKind.i64 (List.getD x.fst (1 : Nat) (Kd.dft
  (Kd.int IntKind.u8))) - (128 : Int))))) x.fst))) : Int) = (↑(List.length (List.drop (2 : Nat) (List.take (Int.toNat (IntKind.wrap IntKind.i64 ((2 : Int) + IntKind.wrap IntKind.i64
  (IntKind.wrap IntKind.i64 (List.getD x.fst (1 : Nat) (Kd.dft (Kd.int IntKind.u8))) - (128 : Int))))) x.fst))) : Int) ∧ List.drop (2 : Nat) (List.take (Int.toNat (IntKind.wrap IntKind.i64
  ((2 : Int) + IntKind.wrap IntKind.i64 (IntKind.wrap IntKind.i64 (List.getD x.fst (1 : Nat) (Kd.dft (Kd.int IntKind.u8))) - (128 : Int))))) x.fst) = List.drop (2 : Nat) (List.take (Int.toNat
  (IntKind.wrap IntKind.i64 ((2 : Int) + IntKind.wrap IntKind.i64 (IntKind.wrap IntKind.i64 (List.getD x.fst (1 : Nat) (Kd.dft (Kd.int IntKind.u8))) - (128 : Int))))) x.fst) ∧ Value.bool
  false = Value.bool false ∧ Value.bool false = Value.bool false ∧ Value.bool false = Value.bool false ∧ IntKind.wrap IntKind.i64 (IntKind.wrap IntKind.i64 (List.getD x.fst (1 : Nat) (Kd.dft
  (Kd.int IntKind.u8))) - (128 : Int)) = IntKind.wrap IntKind.i64 (IntKind.wrap IntKind.i64 (List.getD x.fst (1 : Nat) (Kd.dft (Kd.int IntKind.u8))) - (128 : Int)) ∧ Value.bool false =
  Value.bool false ∧ Value.bool false = Value.bool false ∧ Value.bool false = Value.bool false ∧ (0 : Int) = (0 : Int) ∧ (0 : Int) = (0 : Int) ∧ (0 : Int) = (0 : Int) ∧ x.fst = x.fst ∧ I
  (IntKind.wrap IntKind.i64 (y.fst + (1 : Int)), IntKind.wrap IntKind.i64 (↑(BitVec.toNat (BitVec.ofInt (64 : Nat) (IntKind.wrap IntKind.i64 (y.snd.fst * (2 : Int) ^ (8 : Nat))) |||
  BitVec.ofInt (64 : Nat) (IntKind.wrap IntKind.i64 (List.getD (List.drop (2 : Nat) (List.take (Int.toNat (IntKind.wrap IntKind.i64 ((2 : Int) + IntKind.wrap IntKind.i64 (IntKind.wrap
  IntKind.i64 (List.getD x.fst (1 : Nat) (Kd.dft (Kd.int IntKind.u8))) - (128 : Int))))) x.fst)) (Int.toNat y.fst) (Kd.dft (Kd.int IntKind.u8)))))) : Int), ()) () ∧ μ (IntKind.wrap
  IntKind.i64 (y.fst + (1 : Int)), IntKind.wrap IntKind.i64 (↑(BitVec.toNat (BitVec.ofInt (64 : Nat) (IntKind.wrap IntKind.i64 (y.snd.fst * (2 : Int) ^ (8 : Nat))) ||| BitVec.ofInt (64 : Nat)
  (IntKind.wrap IntKind.i64 (List.getD (List.drop (2 : Nat) (List.take (Int.toNat (IntKind.wrap IntKind.i64 ((2 : Int) + IntKind.wrap IntKind.i64 (IntKind.wrap IntKind.i64 (List.getD x.fst (1
  : Nat) (Kd.dft (Kd.int IntKind.u8))) - (128 : Int))))) x.fst)) (Int.toNat y.fst) (Kd.dft (Kd.int IntKind.u8)))))) : Int), ()) () < μ y z) ∧ (decide (y.fst < (↑(List.length (List.drop (2 :
  Nat) (List.take (Int.toNat (IntKind.wrap IntKind.i64 ((2 : Int) + IntKind.wrap IntKind.i64 (IntKind.wrap IntKind.i64 (List.getD x.fst (1 : Nat) (Kd.dft (Kd.int IntKind.u8))) - (128 :
  Int))))) x.fst))) : Int)) = false → (decide (y.snd.fst < (128 : Int)) = true → ((0 : Int), (0 : Int), (0 : Int), (12 : Int)) = headK x.fst) ∧ (decide (y.snd.fst < (128 : Int)) = false → ((0
  : Int) ≤ (0 : Int) ∧ (0 : Int) < (↑(List.length x.fst) : Int)) ∧ (IntKind.wrap IntKind.i64 (List.getD x.fst (0 : Nat) (Kd.dft (Kd.int IntKind.u8))), IntKind.wrap IntKind.i64 ((2 : Int) +
  IntKind.wrap IntKind.i64 (IntKind.wrap IntKind.i64 (List.getD x.fst (1 : Nat) (Kd.dft (Kd.int IntKind.u8))) - (128 : Int))), y.snd.fst, (0 : Int)) = headK x.fst)))))))) ∧ True)
theorem e86 : t86 = Con.vc c_der_head GL (mkEnv ty [(96, conSem c_der_isTag)] [] [] [0, 2, 3, 4, 5, 6, 8, 9, 13, 20, 29, 40, 58, 67, 68, 69, 70, 80]) {} Tryd.f86.ntmps Tryd.f86.results.toList (bodyOf Tryd.f86) := by kernel_rfl
theorem k86 : t86 := by
  unfold t86
  rintro ⟨b, _⟩ hx hp
  have hp : b.length ≤ 1000000000 := hp
  have hb : Bys b := sl_bys hx.1
  try dsimp +instances only [dft_int, dft_sl, dft_str]
  simp only [true_and, and_true, eq_self_iff_true, implies_true, reduceCtorEq, false_implies, true_implies, decide_eq_true_eq, decide_eq_false_iff_not, beq_self_eq_true, Bool.not_eq_true', ne_eq, Decidable.not_not, List.nil_append, List.length_singleton, List.length_cons, List.length_nil, Nat.zero_add, Nat.add_zero, Nat.mul_one, and_self, beq_iff_eq, Bool.not_true, Bool.not_false, Bool.not_eq_false', Bool.cond_false_right, Bool.and_eq_true, imp_self, Bool.not_eq_true, Bool.cond_true_left, Bool.or_eq_true]
  have b0 := bys_get hb 0
  have b1 := bys_get hb 1
  rw [wrapK (b.getD 0 0) (by omega) (by omega), wrapK (b.getD 1 0) (by omega) (by omega), wrapK (b.getD 1 0 - 128) (by omega) (by omega), wrapK (2 + (b.getD 1 0 - 128)) (by omega) (by omega)]
  have hnil : b = [] ↔ (b.length : Int) = 0 := ⟨fun h => by rw [h]; rfl, fun h => List.eq_nil_of_length_eq_zero (by omega)⟩
  unfold headK
  refine ⟨fun h => by rw [if_pos (hnil.2 h)], fun h => ⟨⟨by decide, by omega⟩, ?_⟩⟩
  rw [if_neg (fun e => h (hnil.1 e))]
  rintro ⟨q, _⟩ _ eq
  simp only at eq ⊢
  subst eq
  refine ⟨fun h1 => by rw [if_pos h1], fun h1 => ?_⟩
  rw [if_neg (by rw [h1]; decide)]
  refine ⟨fun h2 => by rw [if_pos (by omega)], fun h2 => ⟨⟨by decide, by omega⟩, fun h3 => ⟨⟨by decide, by omega⟩, ⟨by decide, by omega⟩, ?_⟩, fun h3 => ?_⟩⟩
  · rw [if_neg (by omega), if_pos (by omega)]
  rw [if_neg (by omega), if_neg (by omega)]
  refine ⟨fun g1 g2 => ⟨⟨g1, g2⟩, by decide, by omega⟩, fun g1 g2 => ⟨g1, g2⟩, fun g1 g2 => ⟨g1, g2⟩, fun g1 => ⟨g1, fun g2 => ⟨g1, g2⟩⟩, fun h4 => by rw [if_pos (by omega)], fun h4 => ?_⟩
  have h4' : ¬ (b.getD 1 0 = 128 ∨ 131 < b.getD 1 0 ∨ (2 < b.length ∧ b.getD 2 0 = 0)) := by
    simp only [Bool.or_eq_false_iff, Bool.and_eq_false_iff, decide_eq_false_iff_not] at h4
    omega
  rw [if_neg h4']
  refine ⟨fun h5 => by rw [if_pos h5], fun h5 => ⟨⟨by decide, by omega, by omega⟩, ?_⟩⟩
  rw [if_neg h5]
  have hsl : (b.take (2 + (b.getD 1 0 - 128)).toNat).drop 2 = (b.drop 2).take (b.getD 1 0 - 128).toNat := by
    rw [List.drop_take]
    congr 1
    omega
  rw [hsl]
  have hbl : Bys ((b.drop 2).take (b.getD 1 0 - 128).toNat) := bys_take (bys_drop hb 2) _
  have hll : ((b.drop 2).take (b.getD 1 0 - 128).toNat).length ≤ 3 := by rw [List.length_take]; omega
  generalize (b.drop 2).take (b.getD 1 0 - 128).toNat = l at hbl hll
  refine ⟨fun y _ => 0 ≤ y.1 ∧ y.1 ≤ l.length ∧ y.2.1 = numB (l.take y.1.toNat), fun y _ => ((l.length : Int) - y.1).toNat, ⟨Int.le_refl 0, by simp only; omega, rfl⟩, ?_⟩
  rintro ⟨i, n, _⟩ _ _ ⟨i0, i1, en⟩
  simp only at i0 i1 en ⊢
  refine ⟨fun hlt => ⟨⟨i0, hlt⟩, by decide, ?_⟩, fun hge => ?_⟩
  · have hnb := num_bound hbl (j := i.toNat) (by omega)
    rw [← en] at hnb
    rw [wrapK (i + 1) (by omega) (by omega), or8 (bys_get hbl _) hnb]
    refine ⟨⟨by omega, by omega, ?_⟩, by omega⟩
    rw [show (i + 1).toNat = i.toNat + 1 by omega, take_snoc l _ (by omega), num_snoc, en]
  · rw [List.take_of_length_le (by omega)] at en
    rw [en]
    exact ⟨fun h6 => by rw [if_pos h6], fun h6 => ⟨⟨by decide, by omega⟩, by rw [if_neg h6]⟩⟩
theorem h86 : c_der_head.ok Tryd.prog GL 86 := con_ok (H := {}) (mkEnv_ok (gl := GL) (l := [(96, conSem c_der_isTag)]) (q := []) (d := []) _ tyOk (by kernel_rfl) ⟨h96.call, trivial⟩ trivial trivial) (by kernel_rfl) (by kernel_rfl) (Eq.mp e86 k86)

def t62 : Prop :=
  ∀ (x : List Int × Unit), Kd.wf (Kd.sl (Kd.int IntKind.u8)) x.fst ∧ True → lenB x.fst ≤ (1000000000 : Nat) → (2 : Nat) ≤ (65536 : Nat) ∧ lenB x.fst ≤ (1000000000 : Nat) ∧ (∀ (y : Int × Int ×
  Int × Int × Unit), Kd.wf (Kd.int IntKind.i64) y.fst ∧ Kd.wf (Kd.int IntKind.i64) y.snd.fst ∧ Kd.wf (Kd.int IntKind.i64) y.snd.snd.fst ∧ Kd.wf (Kd.int IntKind.i64) y.snd.snd.snd.fst ∧ True →
  (y.fst, y.snd.fst, y.snd.snd.fst, y.snd.snd.snd.fst) = headK x.fst → (decide (y.snd.snd.snd.fst = (0 : Int)) = true → True) ∧ (decide (y.snd.snd.snd.fst = (0 : Int)) = true → (decide
  (y.snd.snd.snd.fst = (0 : Int)) == true) = true ∧ True) ∧ (decide (y.snd.snd.snd.fst = (0 : Int)) = true → True) ∧ (decide (y.snd.snd.snd.fst = (0 : Int)) = true → (decide
  (y.snd.snd.snd.fst = (0 : Int)) == true) = true ∧ (decide (y.snd.snd.snd.fst = (0 : Int)) == true) = true ∧ True) ∧ (decide (y.snd.snd.snd.fst = (0 : Int)) = true → True) ∧ (decide
  (y.snd.snd.snd.fst = (0 : Int)) = true → (decide (y.snd.snd.snd.fst = (0 : Int)) == true) = true ∧ (decide (y.snd.snd.snd.fst = (0 : Int)) == true) = true ∧ True) ∧ (decide
  (y.snd.snd.snd.fst = (0 : Int)) = true → (decide (y.snd.snd.snd.fst = (0 : Int)) == true) = true) ∧ ((bif decide (y.snd.snd.snd.fst = (0 : Int)) then decide (IntKind.wrap IntKind.i64
  ((↑(List.length x.fst) : Int) - y.snd.fst) < y.snd.snd.fst) else false) = true → (decide ((10 : Int) ≠ (0 : Int)) = true → (((0 : Int), []), (0 : Int), (10 : Int)) = takeD x.fst) ∧ (decide
  ((10 : Int) ≠ (0 : Int)) = false → ((0 : Int) ≤ y.snd.fst ∧ y.snd.fst ≤ IntKind.wrap IntKind.i64 (y.snd.fst + y.snd.snd.fst) ∧ IntKind.wrap IntKind.i64 (y.snd.fst + y.snd.snd.fst) ≤
  (↑(List.length x.fst) : Int)) ∧ lenB (List.drop (Int.toNat y.snd.fst) (List.take (Int.toNat (IntKind.wrap IntKind.i64 (y.snd.fst + y.snd.snd.fst))) x.fst)) ≤ (1000000000 : Nat) ∧ (∀ (y_1 :
  List Int × Unit), Kd.wf (Kd.sl (Kd.int IntKind.u8)) y_1.fst ∧ True → y_1.fst = List.drop (Int.toNat y.snd.fst) (List.take (Int.toNat (IntKind.wrap IntKind.i64 (y.snd.fst + y.snd.snd.fst)))
  x.fst) → ((y.fst, y_1.fst), IntKind.wrap IntKind.i64 (y.snd.fst + y.snd.snd.fst), (0 : Int)) = takeD x.fst) ∧ True)) ∧ ((bif decide (y.snd.snd.snd.fst = (0 : Int)) then decide (IntKind.wrap
  IntKind.i64 ((↑(List.length x.fst) : Int) - y.snd.fst) < y.snd.snd.fst) else false) = false → (decide (y.snd.snd.snd.fst ≠ (0 : Int)) = true → (((0 : Int), []), (0 : Int),
  y.snd.snd.snd.fst) = takeD x.fst) ∧ (decide (y.snd.snd.snd.fst ≠ (0 : Int)) = false → ((0 : Int) ≤ y.snd.fst ∧ y.snd.fst ≤ IntKind.wrap IntKind.i64 (y.snd.fst + y.snd.snd.fst) ∧
  IntKind.wrap IntKind.i64 (y.snd.fst + y.snd.snd.fst) ≤ (↑(List.length x.fst) : Int)) ∧ lenB (List.drop (Int.toNat y.snd.fst) (List.take (Int.toNat (IntKind.wrap IntKind.i64 (y.snd.fst +
  y.snd.snd.fst))) x.fst)) ≤ (1000000000 : Nat) ∧ (∀ (y_1 : List Int × Unit), Kd.wf (Kd.sl (Kd.int IntKind.u8)) y_1.fst ∧ True → y_1.fst = List.drop (Int.toNat y.snd.fst) (List.take
  (Int.toNat (IntKind.wrap IntKind.i64 (y.snd.fst + y.snd.snd.fst))) x.fst) → ((y.fst, y_1.fst), IntKind.wrap IntKind.i64 (y.snd.fst + y.snd.snd.fst), (0 : Int)) = takeD x.fst) ∧ True))) ∧
  True
theorem e62 : t62 = Con.vc c_der_Take GL (mkEnv ty [(86, conSem c_der_head), (87, conSem c_slices_Clone_byte_byte)] [] [] [0, 2, 3, 4, 5, 6, 7, 8, 25, 27]) {} Tryd.f62.ntmps Tryd.f62.results.toList (bodyOf Tryd.f62) := by kernel_rfl
theorem k62 : t62 := by
  unfold t62
  rintro ⟨b, _⟩ hx hp
  have hp : b.length ≤ 1000000000 := hp
  have hb : Bys b := sl_bys hx.1
  try dsimp +instances only [dft_int, dft_sl, dft_str]
  simp only [true_and, and_true, eq_self_iff_true, implies_true, reduceCtorEq, false_implies, true_implies, decide_eq_true_eq, decide_eq_false_iff_not, beq_self_eq_true, Bool.not_eq_true', ne_eq, Decidable.not_not, List.nil_append, List.length_singleton, List.length_cons, List.length_nil, Nat.zero_add, Nat.add_zero, Nat.mul_one, and_self, beq_iff_eq, Bool.not_true, Bool.not_false, Bool.not_eq_false', Bool.cond_false_right, Bool.and_eq_true, imp_self, Bool.not_eq_true, Bool.cond_true_left, Bool.or_eq_true]
  refine ⟨by decide, hp, ?_⟩
  rintro ⟨t, f, n, e, _⟩ _ eh
  simp only at eh ⊢
  have k1 : (headK b).1 = t := by rw [← eh]
  have k2 : (headK b).2.1 = f := by rw [← eh]
  have k3 : (headK b).2.2.1 = n := by rw [← eh]
  have k4 : (headK b).2.2.2 = e := by rw [← eh]
  have hT : takeD b = if e ≠ 0 then ((0, []), 0, e) else if (b.length : Int) - f < n then ((0, []), 0, 10) else ((t, (b.drop f.toNat).take n.toNat), f + n, 0) := by rw [takeD, k1, k2, k3, k4]
  have hok : e = 0 → 2 ≤ f ∧ f ≤ 5 ∧ f ≤ b.length ∧ 0 ≤ n ∧ n ≤ 16777215 := fun h => by
    have := head_ok hb (by rw [k4]; exact h)
    rw [k2, k3] at this
    exact ⟨this.1, this.2.1, this.2.2.1, this.2.2.2.1, this.2.2.2.2.1⟩
  refine ⟨fun h => ⟨fun _ => ?_, fun h10 => by cases h10⟩, fun h => ⟨fun he => by rw [hT, if_pos he], fun he => ?_⟩⟩
  · obtain ⟨h1, h2⟩ := h
    have := hok h1
    rw [wrapK _ (by omega) (by omega)] at h2
    rw [hT, if_neg (by omega), if_pos h2]
  · have hk := hok he
    simp only [Bool.and_eq_false_iff, decide_eq_false_iff_not] at h
    have h := h.resolve_left (fun h => h he)
    rw [wrapK _ (by omega) (by omega)] at h
    rw [wrapK (f + n) (by omega) (by omega)]
    refine ⟨⟨by omega, by omega, by omega⟩, by rw [lenB, List.length_drop, List.length_take]; omega, ?_⟩
    rintro ⟨c, _⟩ _ ec
    simp only at ec ⊢
    rw [hT, if_neg (by omega), if_neg h, ec, List.drop_take, show (f + n).toNat - f.toNat = n.toNat by omega]
theorem h62 : c_der_Take.ok Tryd.prog GL 62 := con_ok (H := {}) (mkEnv_ok (gl := GL) (l := [(86, conSem c_der_head), (87, conSem c_slices_Clone_byte_byte)]) (q := []) (d := []) _ tyOk (by kernel_rfl) ⟨h86.call, h87.call, trivial⟩ trivial trivial) (by kernel_rfl) (by kernel_rfl) (Eq.mp e62 k62)

def t42 : Prop :=
  ∀ (x : List Int × Unit), Kd.wf (Kd.sl (Kd.int IntKind.u8)) x.fst ∧ True → lenB x.fst ≤ (1000000000 : Nat) → (2 : Nat) ≤ (65536 : Nat) ∧ lenB x.fst ≤ (1000000000 : Nat) ∧ (∀ (y : (Int × List
  Int) × Int × Int × Unit), Kd.wf (Kd.pair (Kd.int IntKind.i64) (Kd.sl (Kd.int IntKind.u8))) y.fst ∧ Kd.wf (Kd.int IntKind.i64) y.snd.fst ∧ Kd.wf (Kd.int IntKind.i64) y.snd.snd.fst ∧ True →
  (y.fst, y.snd.fst, y.snd.snd.fst) = takeD x.fst → (2 : Nat) ≤ (65536 : Nat) ∧ (decide (y.snd.snd.fst = (0 : Int)) = true → True) ∧ (decide (y.snd.snd.fst = (0 : Int)) = true → True) ∧
  (decide (y.snd.snd.fst = (0 : Int)) = true → (decide (y.snd.snd.fst = (0 : Int)) == true) = true ∧ True) ∧ (decide (y.snd.snd.fst = (0 : Int)) = true → (decide (y.snd.snd.fst = (0 : Int))
  == true) = true ∧ (decide (y.snd.snd.fst = (0 : Int)) == true) = true ∧ True) ∧ (decide (y.snd.snd.fst = (0 : Int)) = true → (decide (y.snd.snd.fst = (0 : Int)) == true) = true) ∧ ((bif
  decide (y.snd.snd.fst = (0 : Int)) then decide (y.snd.fst < (↑(List.length x.fst) : Int)) else false) = true → (((0 : Int), []), (13 : Int)) = oneD x.fst) ∧ ((bif decide (y.snd.snd.fst = (0
  : Int)) then decide (y.snd.fst < (↑(List.length x.fst) : Int)) else false) = false → ((y.fst.fst, y.fst.snd), y.snd.snd.fst) = oneD x.fst)) ∧ True
theorem e42 : t42 = Con.vc c_der_One GL (mkEnv ty [(62, conSem c_der_Take)] [] [] [0, 2, 3, 4, 5, 6, 20]) {} Tryd.f42.ntmps Tryd.f42.results.toList (bodyOf Tryd.f42) := by kernel_rfl
theorem k42 : t42 := by
  unfold t42
  rintro ⟨b, _⟩ hx hp
  have hp : b.length ≤ 1000000000 := hp
  try dsimp +instances only [dft_int, dft_sl, dft_str]
  simp only [true_and, and_true, eq_self_iff_true, implies_true, reduceCtorEq, false_implies, true_implies, decide_eq_true_eq, decide_eq_false_iff_not, beq_self_eq_true, Bool.not_eq_true', ne_eq, Decidable.not_not, List.nil_append, List.length_singleton, List.length_cons, List.length_nil, Nat.zero_add, Nat.add_zero, Nat.mul_one, and_self, beq_iff_eq, Bool.not_true, Bool.not_false, Bool.not_eq_false', Bool.cond_false_right, Bool.and_eq_true, imp_self, Bool.not_eq_true, Bool.cond_true_left, Bool.or_eq_true]
  refine ⟨by decide, hp, ?_⟩
  rintro ⟨⟨t, c⟩, n, e, _⟩ _ eT
  simp only at eT ⊢
  refine ⟨by decide, fun h => ?_, fun h => ?_⟩
  · rw [oneD, ← eT, if_pos h]
  · rw [oneD, ← eT, if_neg (fun hh => by simp only [Bool.and_eq_false_iff, decide_eq_false_iff_not] at h; exact h.elim (fun h => h hh.1) (fun h => h hh.2))]
theorem h42 : c_der_One.ok Tryd.prog GL 42 := con_ok (H := {}) (mkEnv_ok (gl := GL) (l := [(62, conSem c_der_Take)]) (q := []) (d := []) _ tyOk (by kernel_rfl) ⟨h62.call, trivial⟩ trivial trivial) (by kernel_rfl) (by kernel_rfl) (Eq.mp e42 k42)

def t64 : Prop :=
  ∀ (x : Int × Unit), Kd.wf (Kd.int IntKind.i64) x.fst ∧ True → True → (decide (x.fst < (0 : Int)) = false → True) ∧ (decide (x.fst < (0 : Int)) = false → (decide (x.fst < (0 : Int)) ==
  false) = true ∧ True) ∧ (decide (x.fst < (0 : Int)) = false → (decide (x.fst < (0 : Int)) == false) = true) ∧ ((bif decide (x.fst < (0 : Int)) then true else decide ((16777215 : Int) <
  x.fst)) = true → (0 : Int) = sizeD x.fst) ∧ ((bif decide (x.fst < (0 : Int)) then true else decide ((16777215 : Int) < x.fst)) = false → ((0 : Int) ≤ x.fst ∧ x.fst ≤ (16777215 : Int)) ∧ (∀
  (y : List Int × Unit), Kd.wf (Kd.sl (Kd.int IntKind.u8)) y.fst ∧ True → y.fst = lngD x.fst → IntKind.wrap IntKind.i64 ((1 : Int) + (↑(List.length y.fst) : Int)) = sizeD x.fst) ∧ True)
theorem e64 : t64 = Con.vc c_der_Size GL (mkEnv ty [(89, conSem c_der_length)] [] [] [0, 2, 8]) {} Tryd.f64.ntmps Tryd.f64.results.toList (bodyOf Tryd.f64) := by kernel_rfl
theorem k64 : t64 := by
  unfold t64
  rintro ⟨n, _⟩ hx hp
  try dsimp +instances only [dft_int, dft_sl, dft_str]
  simp only [true_and, and_true, eq_self_iff_true, implies_true, reduceCtorEq, false_implies, true_implies, decide_eq_true_eq, decide_eq_false_iff_not, beq_self_eq_true, Bool.not_eq_true', ne_eq, Decidable.not_not, List.nil_append, List.length_singleton, List.length_cons, List.length_nil, Nat.zero_add, Nat.add_zero, Nat.mul_one, and_self, beq_iff_eq, Bool.not_true, Bool.not_false, Bool.not_eq_false', Bool.cond_false_right, Bool.and_eq_true, imp_self, Bool.not_eq_true, Bool.cond_true_left, Bool.or_eq_true]
  refine ⟨fun h => by rw [sizeD, if_pos h], fun h => ?_⟩
  simp only [Bool.or_eq_false_iff, decide_eq_false_iff_not] at h
  refine ⟨⟨by omega, by omega⟩, ?_⟩
  rintro ⟨l, _⟩ _ el
  simp only at el ⊢
  have := lng_len (n := n)
  rw [el, wrapK _ (by omega) (by omega), size_of (by omega) (by omega)]
theorem h64 : c_der_Size.ok Tryd.prog GL 64 := con_ok (H := {}) (mkEnv_ok (gl := GL) (l := [(89, conSem c_der_length)]) (q := []) (d := []) _ tyOk (by kernel_rfl) ⟨h89.call, trivial⟩ trivial trivial) (by kernel_rfl) (by kernel_rfl) (Eq.mp e64 k64)

noncomputable def i88 : CallSem → CallSem := vcSeq (mkEnv ty [(62, conSem c_der_Take)] [] [] [0, 1, 3, 4, 5, 6, 10, 27]) {} Tryd.f88.ntmps Tryd.f88.results.toList (bodyOf Tryd.f88)
theorem i88_ok : SeqOk Tryd.prog GL 88 i88 := seq_ok {} (mkEnv_ok (gl := GL) (l := [(62, conSem c_der_Take)]) (q := []) (d := []) _ tyOk (by kernel_rfl) ⟨h62.call, trivial⟩ trivial trivial) (by kernel_rfl) (by kernel_rfl)

noncomputable def i63 : CallSem := vcFn (mkEnv ty [(87, conSem c_slices_Clone_byte_byte)] [] [] [0, 2, 3]) {} Tryd.f63.ntmps Tryd.f63.results.toList (bodyOf Tryd.f63)
theorem i63_ok : CallOk Tryd.prog GL 63 i63 := inl_ok {} (mkEnv_ok (gl := GL) (l := [(87, conSem c_slices_Clone_byte_byte)]) (q := []) (d := []) _ tyOk (by kernel_rfl) ⟨h87.call, trivial⟩ trivial trivial) (by kernel_rfl) (by kernel_rfl)

def t43 : Prop :=
  ∀ (x : List Int × Unit), Kd.wf (Kd.sl (Kd.int IntKind.u8)) x.fst ∧ True → lenB x.fst ≤ (1000000000 : Nat) → (1 : Nat) ≤ (65536 : Nat) ∧ (1 : Nat) ≤ (65536 : Nat) ∧ lenB x.fst ≤ (1000000000
  : Nat) ∧ (∀ (y : List Int × Unit), Kd.wf (Kd.sl (Kd.int IntKind.u8)) y.fst ∧ True → y.fst = x.fst → (1 : Nat) ≤ (65536 : Nat) ∧ ∃ (I : Int × Unit → Unit × (Int × Unit) × (List Int × Unit) ×
  List (Int × List Int) × Unit → Prop), ∃ (μ : Int × Unit → Unit × (Int × Unit) × (List Int × Unit) × List (Int × List Int) × Unit → Nat), ((0 : Int) = (0 : Int) ∧ (0 : Int) = (0 : Int) ∧
  Value.slice none (0 : Nat) (0 : Nat) = Value.slice none (0 : Nat) (0 : Nat) ∧ x.fst = x.fst ∧ I ((0 : Int), ()) ((), ((0 : Int), ()), (y.fst, ()), [], ())) ∧ ∀ (y : Int × Unit) (z : Unit ×
  (Int × Unit) × (List Int × Unit) × List (Int × List Int) × Unit), Kd.wf (Kd.int IntKind.i64) y.fst ∧ True → True ∧ (Kd.wf (Kd.int IntKind.i64) z.snd.fst.fst ∧ True) ∧ (Kd.wf (Kd.sl (Kd.int
  IntKind.u8)) z.snd.snd.fst.fst ∧ True) ∧ Kd.wf (Kd.sl (Kd.pair (Kd.int IntKind.i64) (Kd.sl (Kd.int IntKind.u8)))) z.snd.snd.snd.fst ∧ True → I y z → (decide (y.fst < (↑(List.length
  z.snd.snd.fst.fst) : Int)) = true → ((0 : Int) ≤ y.fst ∧ y.fst ≤ (↑(List.length z.snd.snd.fst.fst) : Int)) ∧ lenB (List.drop (Int.toNat y.fst) z.snd.snd.fst.fst) ≤ (1000000000 : Nat) ∧ (∀
  (y_1 : (Int × List Int) × Int × Int × Unit), Kd.wf (Kd.pair (Kd.int IntKind.i64) (Kd.sl (Kd.int IntKind.u8))) y_1.fst ∧ Kd.wf (Kd.int IntKind.i64) y_1.snd.fst ∧ Kd.wf (Kd.int IntKind.i64)
  y_1.snd.snd.fst ∧ True → (y_1.fst, y_1.snd.fst, y_1.snd.snd.fst) = takeD (List.drop (Int.toNat y.fst) z.snd.snd.fst.fst) → (2 : Nat) ≤ (65536 : Nat) ∧ (decide (y_1.snd.snd.fst ≠ (0 : Int))
  = false → True) ∧ (decide (y_1.snd.snd.fst ≠ (0 : Int)) = false → True) ∧ (decide (y_1.snd.snd.fst ≠ (0 : Int)) = false → True) ∧ (decide (y_1.snd.snd.fst ≠ (0 : Int)) = false → (decide
  (y_1.snd.snd.fst ≠ (0 : Int)) == false) = true ∧ (decide (y_1.snd.snd.fst ≠ (0 : Int)) == false) = true ∧ (decide (y_1.snd.snd.fst ≠ (0 : Int)) == false) = true ∧ (2 : Nat) ≤ (65536 : Nat)
  ∧ (0 : Nat) < (2 : Nat) ∧ (List.length z.snd.snd.snd.fst + List.length [(y_1.fst.fst, y_1.fst.snd)]) * (32 : Nat) ≤ (140737488355328 : Nat) ∧ List.length z.snd.snd.snd.fst + List.length
  [(y_1.fst.fst, y_1.fst.snd)] ≤ (9223372036854775807 : Nat) ∧ (((True ∧ (∀ (y_2 : Int × Unit), Kd.wf (Kd.int IntKind.i64) y_2.fst ∧ True → y_2.fst = sizeD (↑(List.length y_1.fst.snd) : Int)
  → ((((((0 : Int) = (0 : Int) ∧ (0 : Int) = (0 : Int) ∧ Value.slice none (0 : Nat) (0 : Nat) = Value.slice none (0 : Nat) (0 : Nat) ∧ x.fst = x.fst ∧ I (IntKind.wrap IntKind.i64 (y.fst +
  y_1.snd.fst), ()) ((), (IntKind.wrap IntKind.i64 (IntKind.wrap IntKind.i64 (y.fst + y_2.fst) + (↑(List.length y_1.fst.snd) : Int)), ()), (z.snd.snd.fst.fst, ()), z.snd.snd.snd.fst ++
  [(y_1.fst.fst, y_1.fst.snd)], ()) ∧ μ (IntKind.wrap IntKind.i64 (y.fst + y_1.snd.fst), ()) ((), (IntKind.wrap IntKind.i64 (IntKind.wrap IntKind.i64 (y.fst + y_2.fst) + (↑(List.length
  y_1.fst.snd) : Int)), ()), (z.snd.snd.fst.fst, ()), z.snd.snd.snd.fst ++ [(y_1.fst.fst, y_1.fst.snd)], ()) < μ y z) ∧ True) ∧ True) ∧ True) ∧ True) ∧ ((((((0 : Int) = (0 : Int) ∧ (0 : Int)
  = (0 : Int) ∧ Value.slice none (0 : Nat) (0 : Nat) = Value.slice none (0 : Nat) (0 : Nat) ∧ x.fst = x.fst ∧ I (IntKind.wrap IntKind.i64 (y.fst + y_1.snd.fst), ()) ((), (IntKind.wrap
  IntKind.i64 (IntKind.wrap IntKind.i64 (y.fst + y_2.fst) + (↑(List.length y_1.fst.snd) : Int)), ()), (z.snd.snd.fst.fst, ()), z.snd.snd.snd.fst ++ [(y_1.fst.fst, y_1.fst.snd)], ()) ∧ μ
  (IntKind.wrap IntKind.i64 (y.fst + y_1.snd.fst), ()) ((), (IntKind.wrap IntKind.i64 (IntKind.wrap IntKind.i64 (y.fst + y_2.fst) + (↑(List.length y_1.fst.snd) : Int)), ()),
  (z.snd.snd.fst.fst, ()), z.snd.snd.snd.fst ++ [(y_1.fst.fst, y_1.fst.snd)], ()) < μ y z) ∧ True) ∧ True) ∧ True) ∧ (((((0 : Int) = (0 : Int) ∧ (0 : Int) = (0 : Int) ∧ Value.slice none (0 :
  Nat) (0 : Nat) = Value.slice none (0 : Nat) (0 : Nat) ∧ x.fst = x.fst ∧ I (IntKind.wrap IntKind.i64 (y.fst + y_1.snd.fst), ()) ((), (IntKind.wrap IntKind.i64 (IntKind.wrap IntKind.i64
  (y.fst + y_2.fst) + (↑(List.length y_1.fst.snd) : Int)), ()), (z.snd.snd.fst.fst, ()), z.snd.snd.snd.fst ++ [(y_1.fst.fst, y_1.fst.snd)], ()) ∧ μ (IntKind.wrap IntKind.i64 (y.fst +
  y_1.snd.fst), ()) ((), (IntKind.wrap IntKind.i64 (IntKind.wrap IntKind.i64 (y.fst + y_2.fst) + (↑(List.length y_1.fst.snd) : Int)), ()), (z.snd.snd.fst.fst, ()), z.snd.snd.snd.fst ++
  [(y_1.fst.fst, y_1.fst.snd)], ()) < μ y z) ∧ True) ∧ True) ∧ True) ∧ True) ∧ True) ∧ True) ∧ ((True ∧ (∀ (y_2 : Int × Unit), Kd.wf (Kd.int IntKind.i64) y_2.fst ∧ True → y_2.fst = sizeD
  (↑(List.length y_1.fst.snd) : Int) → (((((0 : Int) = (0 : Int) ∧ (0 : Int) = (0 : Int) ∧ Value.slice none (0 : Nat) (0 : Nat) = Value.slice none (0 : Nat) (0 : Nat) ∧ x.fst = x.fst ∧ I
  (IntKind.wrap IntKind.i64 (y.fst + y_1.snd.fst), ()) ((), (IntKind.wrap IntKind.i64 (IntKind.wrap IntKind.i64 (y.fst + y_2.fst) + (↑(List.length y_1.fst.snd) : Int)), ()),
  (z.snd.snd.fst.fst, ()), z.snd.snd.snd.fst ++ [(y_1.fst.fst, y_1.fst.snd)], ()) ∧ μ (IntKind.wrap IntKind.i64 (y.fst + y_1.snd.fst), ()) ((), (IntKind.wrap IntKind.i64 (IntKind.wrap
  IntKind.i64 (y.fst + y_2.fst) + (↑(List.length y_1.fst.snd) : Int)), ()), (z.snd.snd.fst.fst, ()), z.snd.snd.snd.fst ++ [(y_1.fst.fst, y_1.fst.snd)], ()) < μ y z) ∧ True) ∧ True) ∧ True) ∧
  (((((0 : Int) = (0 : Int) ∧ (0 : Int) = (0 : Int) ∧ Value.slice none (0 : Nat) (0 : Nat) = Value.slice none (0 : Nat) (0 : Nat) ∧ x.fst = x.fst ∧ I (IntKind.wrap IntKind.i64 (y.fst +
  y_1.snd.fst), ()) ((), (IntKind.wrap IntKind.i64 (IntKind.wrap IntKind.i64 (y.fst + y_2.fst) + (↑(List.length y_1.fst.snd) : Int)), ()), (z.snd.snd.fst.fst, ()), z.snd.snd.snd.fst ++
  [(y_1.fst.fst, y_1.fst.snd)], ()) ∧ μ (IntKind.wrap IntKind.i64 (y.fst + y_1.snd.fst), ()) ((), (IntKind.wrap IntKind.i64 (IntKind.wrap IntKind.i64 (y.fst + y_2.fst) + (↑(List.length
  y_1.fst.snd) : Int)), ()), (z.snd.snd.fst.fst, ()), z.snd.snd.snd.fst ++ [(y_1.fst.fst, y_1.fst.snd)], ()) < μ y z) ∧ True) ∧ True) ∧ True) ∧ True) ∧ True) ∧ ((True ∧ (∀ (y_2 : Int × Unit),
  Kd.wf (Kd.int IntKind.i64) y_2.fst ∧ True → y_2.fst = sizeD (↑(List.length y_1.fst.snd) : Int) → ((((0 : Int) = (0 : Int) ∧ (0 : Int) = (0 : Int) ∧ Value.slice none (0 : Nat) (0 : Nat) =
  Value.slice none (0 : Nat) (0 : Nat) ∧ x.fst = x.fst ∧ I (IntKind.wrap IntKind.i64 (y.fst + y_1.snd.fst), ()) ((), (IntKind.wrap IntKind.i64 (IntKind.wrap IntKind.i64 (y.fst + y_2.fst) +
  (↑(List.length y_1.fst.snd) : Int)), ()), (z.snd.snd.fst.fst, ()), z.snd.snd.snd.fst ++ [(y_1.fst.fst, y_1.fst.snd)], ()) ∧ μ (IntKind.wrap IntKind.i64 (y.fst + y_1.snd.fst), ()) ((),
  (IntKind.wrap IntKind.i64 (IntKind.wrap IntKind.i64 (y.fst + y_2.fst) + (↑(List.length y_1.fst.snd) : Int)), ()), (z.snd.snd.fst.fst, ()), z.snd.snd.snd.fst ++ [(y_1.fst.fst, y_1.fst.snd)],
  ()) < μ y z) ∧ True) ∧ True) ∧ True) ∧ True) ∧ True) ∧ True) ∧ True) ∧ (((True ∧ (∀ (y_2 : Int × Unit), Kd.wf (Kd.int IntKind.i64) y_2.fst ∧ True → y_2.fst = sizeD (↑(List.length
  y_1.fst.snd) : Int) → (((((0 : Int) = (0 : Int) ∧ (0 : Int) = (0 : Int) ∧ Value.slice none (0 : Nat) (0 : Nat) = Value.slice none (0 : Nat) (0 : Nat) ∧ x.fst = x.fst ∧ I (IntKind.wrap
  IntKind.i64 (y.fst + y_1.snd.fst), ()) ((), (IntKind.wrap IntKind.i64 (IntKind.wrap IntKind.i64 (y.fst + y_2.fst) + (↑(List.length y_1.fst.snd) : Int)), ()), (z.snd.snd.fst.fst, ()),
  z.snd.snd.snd.fst ++ [(y_1.fst.fst, y_1.fst.snd)], ()) ∧ μ (IntKind.wrap IntKind.i64 (y.fst + y_1.snd.fst), ()) ((), (IntKind.wrap IntKind.i64 (IntKind.wrap IntKind.i64 (y.fst + y_2.fst) +
  (↑(List.length y_1.fst.snd) : Int)), ()), (z.snd.snd.fst.fst, ()), z.snd.snd.snd.fst ++ [(y_1.fst.fst, y_1.fst.snd)], ()) < μ y z) ∧ True) ∧ True) ∧ True) ∧ (((((0 : Int) = (0 : Int) ∧ (0 :
  Int) = (0 : Int) ∧ Value.slice none (0 : Nat) (0 : Nat) = Value.slice none (0 : Nat) (0 : Nat) ∧ x.fst = x.fst ∧ I (IntKind.wrap IntKind.i64 (y.fst + y_1.snd.fst), ()) ((), (IntKind.wrap
  IntKind.i64 (IntKind.wrap IntKind.i64 (y.fst + y_2.fst) + (↑(List.length y_1.fst.snd) : Int)), ()), (z.snd.snd.fst.fst, ()), z.snd.snd.snd.fst ++ [(y_1.fst.fst, y_1.fst.snd)], ()) ∧ μ
  (IntKind.wrap IntKind.i64 (y.fst + y_1.snd.fst), ()) ((), (IntKind.wrap IntKind.i64 (IntKind.wrap IntKind.i64 (y.fst + y_2.fst) + (↑(List.length y_1.fst.snd) : Int)), ()),
  (z.snd.snd.fst.fst, ()), z.snd.snd.snd.fst ++ [(y_1.fst.fst, y_1.fst.snd)], ()) < μ y z) ∧ True) ∧ True) ∧ True) ∧ True) ∧ True) ∧ ((True ∧ (∀ (y_2 : Int × Unit), Kd.wf (Kd.int IntKind.i64)
  y_2.fst ∧ True → y_2.fst = sizeD (↑(List.length y_1.fst.snd) : Int) → ((((0 : Int) = (0 : Int) ∧ (0 : Int) = (0 : Int) ∧ Value.slice none (0 : Nat) (0 : Nat) = Value.slice none (0 : Nat) (0
  : Nat) ∧ x.fst = x.fst ∧ I (IntKind.wrap IntKind.i64 (y.fst + y_1.snd.fst), ()) ((), (IntKind.wrap IntKind.i64 (IntKind.wrap IntKind.i64 (y.fst + y_2.fst) + (↑(List.length y_1.fst.snd) :
  Int)), ()), (z.snd.snd.fst.fst, ()), z.snd.snd.snd.fst ++ [(y_1.fst.fst, y_1.fst.snd)], ()) ∧ μ (IntKind.wrap IntKind.i64 (y.fst + y_1.snd.fst), ()) ((), (IntKind.wrap IntKind.i64
  (IntKind.wrap IntKind.i64 (y.fst + y_2.fst) + (↑(List.length y_1.fst.snd) : Int)), ()), (z.snd.snd.fst.fst, ()), z.snd.snd.snd.fst ++ [(y_1.fst.fst, y_1.fst.snd)], ()) < μ y z) ∧ True) ∧
  True) ∧ True) ∧ True) ∧ True) ∧ True) ∧ (((True ∧ (∀ (y_2 : Int × Unit), Kd.wf (Kd.int IntKind.i64) y_2.fst ∧ True → y_2.fst = sizeD (↑(List.length y_1.fst.snd) : Int) → ((((0 : Int) = (0 :
  Int) ∧ (0 : Int) = (0 : Int) ∧ Value.slice none (0 : Nat) (0 : Nat) = Value.slice none (0 : Nat) (0 : Nat) ∧ x.fst = x.fst ∧ I (IntKind.wrap IntKind.i64 (y.fst + y_1.snd.fst), ()) ((),
  (IntKind.wrap IntKind.i64 (IntKind.wrap IntKind.i64 (y.fst + y_2.fst) + (↑(List.length y_1.fst.snd) : Int)), ()), (z.snd.snd.fst.fst, ()), z.snd.snd.snd.fst ++ [(y_1.fst.fst, y_1.fst.snd)],
  ()) ∧ μ (IntKind.wrap IntKind.i64 (y.fst + y_1.snd.fst), ()) ((), (IntKind.wrap IntKind.i64 (IntKind.wrap IntKind.i64 (y.fst + y_2.fst) + (↑(List.length y_1.fst.snd) : Int)), ()),
  (z.snd.snd.fst.fst, ()), z.snd.snd.snd.fst ++ [(y_1.fst.fst, y_1.fst.snd)], ()) < μ y z) ∧ True) ∧ True) ∧ True) ∧ True) ∧ True) ∧ True) ∧ True) ∧ True) ∧ ((((True ∧ (∀ (y_2 : Int × Unit),
  Kd.wf (Kd.int IntKind.i64) y_2.fst ∧ True → y_2.fst = sizeD (↑(List.length y_1.fst.snd) : Int) → (((((0 : Int) = (0 : Int) ∧ (0 : Int) = (0 : Int) ∧ Value.slice none (0 : Nat) (0 : Nat) =
  Value.slice none (0 : Nat) (0 : Nat) ∧ x.fst = x.fst ∧ I (IntKind.wrap IntKind.i64 (y.fst + y_1.snd.fst), ()) ((), (IntKind.wrap IntKind.i64 (IntKind.wrap IntKind.i64 (y.fst + y_2.fst) +
  (↑(List.length y_1.fst.snd) : Int)), ()), (z.snd.snd.fst.fst, ()), z.snd.snd.snd.fst ++ [(y_1.fst.fst, y_1.fst.snd)], ()) ∧ μ (IntKind.wrap IntKind.i64 (y.fst + y_1.snd.fst), ()) ((),
  (IntKind.wrap IntKind.i64 (IntKind.wrap IntKind.i64 (y.fst + y_2.fst) + (↑(List.length y_1.fst.snd) : Int)), ()), (z.snd.snd.fst.fst, ()), z.snd.snd.snd.fst ++ [(y_1.fst.fst, y_1.fst.snd)],
  ()) < μ y z) ∧ True) ∧ True) ∧ True) ∧ (((((0 : Int) = (0 : Int) ∧ (0 : Int) = (0 : Int) ∧ Value.slice none (0 : Nat) (0 : Nat) = Value.slice none (0 : Nat) (0 : Nat) ∧ x.fst = x.fst ∧ I
  (IntKind.wrap IntKind.i64 (y.fst + y_1.snd.fst), ()) ((), (IntKind.wrap IntKind.i64 (IntKind.wrap IntKind.i64 (y.fst + y_2.fst) + (↑(List.length y_1.fst.snd) : Int)), ()),
  (z.snd.snd.fst.fst, ()), z.snd.snd.snd.fst ++ [(y_1.fst.fst, y_1.fst.snd)], ()) ∧ μ (IntKind.wrap IntKind.i64 (y.fst + y_1.snd.fst), ()) ((), (IntKind.wrap IntKind.i64 (IntKind.wrap
  IntKind.i64 (y.fst + y_2.fst) + (↑(List.length y_1.fst.snd) : Int)), ()), (z.snd.snd.fst.fst, ()), z.snd.snd.snd.fst ++ [(y_1.fst.fst, y_1.fst.snd)], ()) < μ y z) ∧ True) ∧ True) ∧ True) ∧
  True) ∧ True) ∧ ((True ∧ (∀ (y_2 : Int × Unit), Kd.wf (Kd.int IntKind.i64) y_2.fst ∧ True → y_2.fst = sizeD (↑(List.length y_1.fst.snd) : Int) → ((((0 : Int) = (0 : Int) ∧ (0 : Int) = (0 :
  Int) ∧ Value.slice none (0 : Nat) (0 : Nat) = Value.slice none (0 : Nat) (0 : Nat) ∧ x.fst = x.fst ∧ I (IntKind.wrap IntKind.i64 (y.fst + y_1.snd.fst), ()) ((), (IntKind.wrap IntKind.i64
  (IntKind.wrap IntKind.i64 (y.fst + y_2.fst) + (↑(List.length y_1.fst.snd) : Int)), ()), (z.snd.snd.fst.fst, ()), z.snd.snd.snd.fst ++ [(y_1.fst.fst, y_1.fst.snd)], ()) ∧ μ (IntKind.wrap
  IntKind.i64 (y.fst + y_1.snd.fst), ()) ((), (IntKind.wrap IntKind.i64 (IntKind.wrap IntKind.i64 (y.fst + y_2.fst) + (↑(List.length y_1.fst.snd) : Int)), ()), (z.snd.snd.fst.fst, ()),
  z.snd.snd.snd.fst ++ [(y_1.fst.fst, y_1.fst.snd)], ()) < μ y z) ∧ True) ∧ True) ∧ True) ∧ True) ∧ True) ∧ True) ∧ (((True ∧ (∀ (y_2 : Int × Unit), Kd.wf (Kd.int IntKind.i64) y_2.fst ∧ True
  → y_2.fst = sizeD (↑(List.length y_1.fst.snd) : Int) → ((((0 : Int) = (0 : Int) ∧ (0 : Int) = (0 : Int) ∧ Value.slice none (0 : Nat) (0 : Nat) = Value.slice none (0 : Nat) (0 : Nat) ∧ x.fst
  = x.fst ∧ I (IntKind.wrap IntKind.i64 (y.fst + y_1.snd.fst), ()) ((), (IntKind.wrap IntKind.i64 (IntKind.wrap IntKind.i64 (y.fst + y_2.fst) + (↑(List.length y_1.fst.snd) : Int)), ()),
  (z.snd.snd.fst.fst, ()), z.snd.snd.snd.fst ++ [(y_1.fst.fst, y_1.fst.snd)], ()) ∧ μ (IntKind.wrap IntKind.i64 (y.fst + y_1.snd.fst), ()) ((), (IntKind.wrap IntKind.i64 (IntKind.wrap
  IntKind.i64 (y.fst + y_2.fst) + (↑(List.length y_1.fst.snd) : Int)), ()), (z.snd.snd.fst.fst, ()), z.snd.snd.snd.fst ++ [(y_1.fst.fst, y_1.fst.snd)], ()) < μ y z) ∧ True) ∧ True) ∧ True) ∧
  True) ∧ True) ∧ True) ∧ True) ∧ ((((True ∧ (∀ (y_2 : Int × Unit), Kd.wf (Kd.int IntKind.i64) y_2.fst ∧ True → y_2.fst = sizeD (↑(List.length y_1.fst.snd) : Int) → ((((0 : Int) = (0 : Int) ∧
  (0 : Int) = (0 : Int) ∧ Value.slice none (0 : Nat) (0 : Nat) = Value.slice none (0 : Nat) (0 : Nat) ∧ x.fst = x.fst ∧ I (IntKind.wrap IntKind.i64 (y.fst + y_1.snd.fst), ()) ((),
  (IntKind.wrap IntKind.i64 (IntKind.wrap IntKind.i64 (y.fst + y_2.fst) + (↑(List.length y_1.fst.snd) : Int)), ()), (z.snd.snd.fst.fst, ()), z.snd.snd.snd.fst ++ [(y_1.fst.fst, y_1.fst.snd)],
  ()) ∧ μ (IntKind.wrap IntKind.i64 (y.fst + y_1.snd.fst), ()) ((), (IntKind.wrap IntKind.i64 (IntKind.wrap IntKind.i64 (y.fst + y_2.fst) + (↑(List.length y_1.fst.snd) : Int)), ()),
  (z.snd.snd.fst.fst, ()), z.snd.snd.snd.fst ++ [(y_1.fst.fst, y_1.fst.snd)], ()) < μ y z) ∧ True) ∧ True) ∧ True) ∧ True) ∧ True) ∧ True) ∧ True) ∧ True) ∧ True) ∧ (decide (y_1.snd.snd.fst ≠
  (0 : Int)) = !false → (decide (z.snd.fst.fst = (↑(List.length x.fst) : Int)) = true → (z.snd.snd.snd.fst, z.snd.fst.fst, (0 : Int)) = allD x.fst) ∧ (decide (z.snd.fst.fst = (↑(List.length
  x.fst) : Int)) = false → ((0 : Int) ≤ z.snd.fst.fst ∧ z.snd.fst.fst ≤ (↑(List.length x.fst) : Int)) ∧ lenB (List.drop (Int.toNat z.snd.fst.fst) x.fst) ≤ (1000000000 : Nat) ∧ (∀ (y : (Int ×
  List Int) × Int × Int × Unit), Kd.wf (Kd.pair (Kd.int IntKind.i64) (Kd.sl (Kd.int IntKind.u8))) y.fst ∧ Kd.wf (Kd.int IntKind.i64) y.snd.fst ∧ Kd.wf (Kd.int IntKind.i64) y.snd.snd.fst ∧
  True → (y.fst, y.snd.fst, y.snd.snd.fst) = takeD (List.drop (Int.toNat z.snd.fst.fst) x.fst) → (2 : Nat) ≤ (65536 : Nat) ∧ ([], z.snd.fst.fst, y.snd.snd.fst) = allD x.fst) ∧ True))) ∧ True)
  ∧ (decide (y.fst < (↑(List.length z.snd.snd.fst.fst) : Int)) = false → (decide (z.snd.fst.fst = (↑(List.length x.fst) : Int)) = true → (z.snd.snd.snd.fst, z.snd.fst.fst, (0 : Int)) = allD
  x.fst) ∧ (decide (z.snd.fst.fst = (↑(List.length x.fst) : Int)) = false → ((0 : Int) ≤ z.snd.fst.fst ∧ z.snd.fst.fst ≤ (↑(List.length x.fst) : Int)) ∧ lenB (List.drop (Int.toNat
  z.snd.fst.fst) x.fst) ≤ (1000000000 : Nat) ∧ (∀ (y : (Int × List Int) × Int × Int × Unit), Kd.wf (Kd.pair (Kd.int IntKind.i64) (Kd.sl (Kd.int IntKind.u8))) y.fst ∧ Kd.wf (Kd.int
  IntKind.i64) y.snd.fst ∧ Kd.wf (Kd.int IntKind.i64) y.snd.snd.fst ∧ True → (y.fst, y.snd.fst, y.snd.snd.fst) = takeD (List.drop (Int.toNat z.snd.fst.fst) x.fst) → (2 : Nat) ≤ (65536 : Nat)
  ∧ ([], z.snd.fst.fst, y.snd.snd.fst) = allD x.fst) ∧ True))) ∧ True
theorem e43 : t43 = Con.vc c_der_All GL (mkEnv ty [(63, i63), (62, conSem c_der_Take), (64, conSem c_der_Size)] [(88, i88)] [] [0, 2, 3, 4, 5, 6, 7, 8, 11, 13, 14, 15, 33]) {} Tryd.f43.ntmps Tryd.f43.results.toList (bodyOf Tryd.f43) := by kernel_rfl
theorem k43 : t43 := by
  unfold t43
  rintro ⟨b, _⟩ hx hp
  have hp : b.length ≤ 1000000000 := hp
  have hb : Bys b := sl_bys hx.1
  try dsimp +instances only [dft_int, dft_sl, dft_str]
  simp only [true_and, and_true, eq_self_iff_true, implies_true, reduceCtorEq, false_implies, true_implies, decide_eq_true_eq, decide_eq_false_iff_not, beq_self_eq_true, Bool.not_eq_true', ne_eq, Decidable.not_not, List.nil_append, List.length_singleton, List.length_cons, List.length_nil, Nat.zero_add, Nat.add_zero, Nat.mul_one, and_self, beq_iff_eq, Bool.not_true, Bool.not_false, Bool.not_eq_false', Bool.cond_false_right, Bool.and_eq_true, imp_self, Bool.not_eq_true, Bool.cond_true_left, Bool.or_eq_true]
  refine ⟨by decide, by decide, hp, ?_⟩
  rintro ⟨b1, _⟩ _ eb
  have eb : b1 = b := eb
  subst eb
  refine ⟨by decide, fun y z => z.2.2.1.1 = b1 ∧ 0 ≤ y.1 ∧ y.1 ≤ b1.length ∧ z.2.1.1 = y.1 ∧ (z.2.2.2.1 : List EltT).length ≤ y.1 ∧ ∃ (k : Nat) (pre : List (Int × EltT)), (b1.length : Int) - y.1 ≤ k ∧ rowD b1 = (pre ++ (rowR b1 k y.1).1, (rowR b1 k y.1).2) ∧ z.2.2.2.1 = pre.map (·.2), fun y _ => ((b1.length : Int) - y.1).toNat, ⟨rfl, Int.le_refl 0, by simp only; omega, rfl, by simp, b1.length, [], by simp only; omega, rfl, rfl⟩, ?_⟩
  rintro ⟨i, _⟩ ⟨_, ⟨en, _⟩, ⟨own, _⟩, out, _⟩ _ _ ⟨eo, i0, i1, ee, hl, k, pre, hk, hr, eout⟩
  simp only at eo i0 i1 ee hl hk hr eout ⊢
  subst eo ee
  refine ⟨fun hlt => ⟨⟨i0, by omega⟩, by rw [lenB, List.length_drop]; omega, ?_⟩, fun hge => ⟨fun h => ?_, fun h => absurd (by omega) h⟩⟩
  · rintro ⟨x, n, e, _⟩ _ eT
    simp only at eT ⊢
    obtain ⟨m, rfl⟩ : ∃ m, k = m + 1 := ⟨k - 1, by omega⟩
    have hbd : Bys (own.drop en.toNat) := bys_drop hb _
    refine ⟨by decide, fun he => ?_, fun he => ⟨fun h => by omega, fun h => ⟨⟨i0, i1⟩, by rw [lenB, List.length_drop]; omega, ?_⟩⟩⟩
    · subst he
      have ok : (takeD (own.drop en.toNat)).2.2 = 0 := by rw [← eT]
      have h1 := take_inv hbd ok
      have h2 := take_ok hbd ok
      rw [row_step own m en hlt ok] at hr
      rw [← eT] at h1 h2 hr
      simp only at h1 h2 hr
      rw [List.length_drop] at h2
      have hpl := put_len x
      have hll := lng_len (n := (x.2.length : Int))
      refine ⟨by trivial, by trivial, by trivial, by decide, by decide, by omega, by omega, ?_⟩
      rintro ⟨z, _⟩ _ ez
      simp only at ez ⊢
      rw [size_of (by omega) (by omega)] at ez
      rw [wrapK (en + n) (by omega) (by omega), wrapK (en + z) (by omega) (by omega), wrapK (en + z + (x.2.length : Int)) (by omega) (by omega)]
      refine ⟨⟨by trivial, by omega, by omega, by omega, by rw [List.length_append, List.length_singleton]; omega, m, pre ++ [(en, x)], by omega, ?_, ?_⟩, by omega⟩
      · rw [hr]; simp
      · rw [eout]; simp
    · rintro ⟨x2, n2, e2, _⟩ _ eT2
      simp only at eT2 ⊢
      have he2 : e2 = e := by
        have := eT.trans eT2.symm
        simp only [Prod.mk.injEq] at this
        exact this.2.2.symm
      have bad : (takeD (own.drop en.toNat)).2.2 ≠ 0 := by rw [← eT]; exact he
      rw [row_bad own m en hlt bad, ← eT] at hr
      refine ⟨by decide, ?_⟩
      rw [allD, hr, he2]
      simp only
      rw [if_pos he]
  · rw [row_end own k en hge] at hr
    rw [allD, hr]
    simp only
    rw [if_neg (by simp), List.append_nil, eout]
theorem h43 : c_der_All.ok Tryd.prog GL 43 := con_ok (H := {}) (mkEnv_ok (gl := GL) (l := [(63, i63), (62, conSem c_der_Take), (64, conSem c_der_Size)]) (q := [(88, i88)]) (d := []) _ tyOk (by kernel_rfl) ⟨i63_ok, h62.call, h64.call, trivial⟩ ⟨i88_ok, trivial⟩ trivial) (by kernel_rfl) (by kernel_rfl) (Eq.mp e43 k43)

end Go.Proofs.YtcaekpbmmbfeiaaDoor
end
section
/- Contracts. -/
namespace Go.Proofs.YtcaekpbmmbfeiaaDoor
open Go Go.Vc Go.Pl Go.Proofs
def c_r01_IsTag : Con := { args := [.dat I64], res := [.dat .bool], pre := fun _ => True, post := fun x y => y.1 = isTagD x.1 }
def c_r01_Length : Con := { args := [.dat I64], res := [.own 5 U8], pre := fun x => 0 ≤ x.1 ∧ x.1 ≤ 16777215, post := fun x y => y.1 = lngD x.1 }
def c_r01_Bytes : Con := { args := [.dat ET], res := [.own 5 U8], pre := fun x => lenB x.1.2 ≤ 16777215 ∧ 0 ≤ x.1.1 ∧ x.1.1 ≤ 255, post := fun x y => y.1 = putB x.1 }
def c_r01_Take : Con := { args := [.dat BY], res := [.dat ET, .dat I64, .dat I64], pre := fun x => lenB x.1 ≤ 1000000000, post := fun x y => (y.1, y.2.1, y.2.2.1) = takeD x.1 }
def c_r01_One : Con := { args := [.dat BY], res := [.dat ET, .dat I64], pre := fun x => lenB x.1 ≤ 1000000000, post := fun x y => (y.1, y.2.1) = oneD x.1 }
def c_r01_Row : Con := { args := [.dat BY], res := [.own 76 ET, .own 3 I64, .dat I64, .dat I64], pre := fun x => lenB x.1 ≤ 1000000000, post := fun x y => y.1 = (rowD x.1).1.map (·.2) ∧ y.2.1 = (rowD x.1).1.map (·.1) ∧ (y.2.2.1, y.2.2.2.1) = (rowD x.1).2 }
def c_r01_All : Con := { args := [.dat BY], res := [.own 76 ET, .dat I64, .dat I64], pre := fun x => lenB x.1 ≤ 1000000000, post := fun x y => (y.1, y.2.1, y.2.2.1) = allD x.1 }

end Go.Proofs.YtcaekpbmmbfeiaaDoor
end
section
/- Walks. -/
namespace Go.Proofs.YtcaekpbmmbfeiaaDoor
open Go Go.Vc Go.Pl Go.Proofs
set_option linter.unusedVariables false
set_option linter.unusedSimpArgs false
set_option maxRecDepth 20000
def t94 : Prop :=
  ∀ (x : Int × Unit), Kd.wf (Kd.int IntKind.i64) x.fst ∧ True → True → (decide ((0 : Int) ≤ x.fst) = true → True) ∧ (decide ((0 : Int) ≤ x.fst) = true → (decide ((0 : Int) ≤ x.fst) == true) =
  true ∧ True) ∧ (decide ((0 : Int) ≤ x.fst) = true → (decide ((0 : Int) ≤ x.fst) == true) = true) ∧ ((bif decide ((0 : Int) ≤ x.fst) then decide (x.fst < (256 : Int)) else false) = true →
  True) ∧ ((bif decide ((0 : Int) ≤ x.fst) then decide (x.fst < (256 : Int)) else false) = true → ((bif decide ((0 : Int) ≤ x.fst) then decide (x.fst < (256 : Int)) else false) == true) =
  true ∧ (32 : Int) ≠ (0 : Int) ∧ True) ∧ ((bif decide ((0 : Int) ≤ x.fst) then decide (x.fst < (256 : Int)) else false) = true → ((bif decide ((0 : Int) ≤ x.fst) then decide (x.fst < (256 :
  Int)) else false) == true) = true ∧ True) ∧ ((bif decide ((0 : Int) ≤ x.fst) then decide (x.fst < (256 : Int)) else false) = true → ((bif decide ((0 : Int) ≤ x.fst) then decide (x.fst <
  (256 : Int)) else false) == true) = true) ∧ (bif bif decide ((0 : Int) ≤ x.fst) then decide (x.fst < (256 : Int)) else false then decide (Int.tmod x.fst (32 : Int) ≠ (31 : Int)) else false)
  = isTagD x.fst
theorem e94 : t94 = Con.vc c_r01_IsTag GL (mkEnv ty [] [] [] [0, 2]) {} Tryd.f94.ntmps Tryd.f94.results.toList (bodyOf Tryd.f94) := by kernel_rfl
theorem k94 : t94 := by
  unfold t94
  rintro ⟨t, _⟩ hx hp
  try dsimp +instances only [dft_int, dft_sl, dft_str]
  simp only [true_and, and_true, eq_self_iff_true, implies_true, reduceCtorEq, false_implies, true_implies, decide_eq_true_eq, decide_eq_false_iff_not, beq_self_eq_true, Bool.not_eq_true', ne_eq, Decidable.not_not, List.nil_append, List.length_singleton, List.length_cons, List.length_nil, Nat.zero_add, Nat.add_zero, Nat.mul_one, and_self, beq_iff_eq, Bool.not_true, Bool.not_false, Bool.not_eq_false', Bool.cond_false_right, Bool.and_eq_true, imp_self, Bool.not_eq_true, Bool.cond_true_left, Bool.or_eq_true]
  exact ⟨fun h => ⟨h, by decide⟩, isTag_ref t⟩
theorem h94 : c_r01_IsTag.ok Tryd.prog GL 94 := con_ok (H := {}) (mkEnv_ok (gl := GL) (l := []) (q := []) (d := []) _ tyOk (by kernel_rfl) trivial trivial trivial) (by kernel_rfl) (by kernel_rfl) (Eq.mp e94 k94)

def t100 : Prop :=
  ∀ (x : Int × Unit), Kd.wf (Kd.int IntKind.i64) x.fst ∧ True → (0 : Int) ≤ x.fst ∧ x.fst ≤ (16777215 : Int) → (decide (x.fst < (128 : Int)) = true → [IntKind.wrap IntKind.u8 x.fst] = lngD
  x.fst) ∧ (decide (x.fst < (128 : Int)) = false → ∃ (I : Int × Unit → List Int × Unit → Prop), ∃ (μ : Int × Unit → List Int × Unit → Nat), (Value.bool false = Value.bool false ∧ Value.slice
  none (0 : Nat) (0 : Nat) = Value.slice none (0 : Nat) (0 : Nat) ∧ I (x.fst, ()) ([], ())) ∧ ∀ (y : Int × Unit) (z : List Int × Unit), Kd.wf (Kd.int IntKind.i64) y.fst ∧ True → Kd.wf (Kd.sl
  (Kd.int IntKind.u8)) z.fst ∧ True → I y z → (decide ((0 : Int) < y.fst) = true → (256 : Int) ≠ (0 : Int) ∧ (0 : Nat) < (1 : Nat) ∧ (List.length [IntKind.wrap IntKind.u8 (Int.tmod y.fst (256
  : Int))] + List.length z.fst) * (1 : Nat) ≤ (140737488355328 : Nat) ∧ List.length [IntKind.wrap IntKind.u8 (Int.tmod y.fst (256 : Int))] + List.length z.fst ≤ (9223372036854775807 : Nat) ∧
  (256 : Int) ≠ (0 : Int) ∧ Value.bool false = Value.bool false ∧ Value.slice none (0 : Nat) (0 : Nat) = Value.slice none (0 : Nat) (0 : Nat) ∧ I (IntKind.wrap IntKind.i64 (Int.tdiv y.fst
  (256 : Int)), ()) ([IntKind.wrap IntKind.u8 (Int.tmod y.fst (256 : Int))] ++ z.fst, ()) ∧ μ (IntKind.wrap IntKind.i64 (Int.tdiv y.fst (256 : Int)), ()) ([IntKind.wrap IntKind.u8 (Int.tmod
  y.fst (256 : Int))] ++ z.fst, ()) < μ y z) ∧ (decide ((0 : Int) < y.fst) = false → (0 : Nat) < (1 : Nat) ∧ (List.length [IntKind.wrap IntKind.u8 (IntKind.wrap IntKind.i64 ((128 : Int) +
  (↑(List.length z.fst) : Int)))] + List.length z.fst) * (1 : Nat) ≤ (140737488355328 : Nat) ∧ List.length [IntKind.wrap IntKind.u8 (IntKind.wrap IntKind.i64 ((128 : Int) + (↑(List.length
  z.fst) : Int)))] + List.length z.fst ≤ (9223372036854775807 : Nat) ∧ [IntKind.wrap IntKind.u8 (IntKind.wrap IntKind.i64 ((128 : Int) + (↑(List.length z.fst) : Int)))] ++ z.fst = lngD
  x.fst))
theorem e100 : t100 = Con.vc c_r01_Length GL (mkEnv ty [] [] [] [0, 2, 3, 5, 10]) {} Tryd.f100.ntmps Tryd.f100.results.toList (bodyOf Tryd.f100) := by kernel_rfl
theorem k100 : t100 := by
  unfold t100
  rintro ⟨n, _⟩ hx hp
  obtain ⟨h0, h1⟩ := hp
  simp only at h0 h1
  try dsimp +instances only [dft_int, dft_sl, dft_str]
  simp only [true_and, and_true, eq_self_iff_true, implies_true, reduceCtorEq, false_implies, true_implies, decide_eq_true_eq, decide_eq_false_iff_not, beq_self_eq_true, Bool.not_eq_true', ne_eq, Decidable.not_not, List.nil_append, List.length_singleton, List.length_cons, List.length_nil, Nat.zero_add, Nat.add_zero, Nat.mul_one, and_self, beq_iff_eq, Bool.not_true, Bool.not_false, Bool.not_eq_false', Bool.cond_false_right, Bool.and_eq_true, imp_self, Bool.not_eq_true, Bool.cond_true_left, Bool.or_eq_true]
  refine ⟨fun h => by rw [lngD, if_pos h, wrap_u8m, show n % 256 = n by omega], fun h => ?_⟩
  refine ⟨fun y z => (y.1 = n ∧ z.1 = []) ∨ (y.1 = n / 256 ∧ z.1 = [n % 256]) ∨ (0 < n / 256 ∧ y.1 = n / 65536 ∧ z.1 = [n / 256 % 256, n % 256]) ∨ (0 < n / 65536 ∧ y.1 = 0 ∧ z.1 = [n / 65536, n / 256 % 256, n % 256]), fun y _ => y.1.toNat, .inl ⟨rfl, rfl⟩, ?_⟩
  rintro ⟨m, _⟩ ⟨z, _⟩ _ _ hI
  simp only at hI ⊢
  refine ⟨fun hlt => ?_, fun hge => ?_⟩
  · have hm : IntKind.wrap .i64 (m.tdiv 256) = m / 256 := by
      rw [Int.tdiv_eq_ediv_of_nonneg (by omega), wrapK _ (by omega) (by omega)]
    have hm2 : IntKind.wrap .u8 (m.tmod 256) = m % 256 := by
      rw [Int.tmod_eq_emod_of_nonneg (by omega), wrap_u8m]
      omega
    rw [hm, hm2]
    rcases hI with ⟨rfl, rfl⟩ | ⟨rfl, rfl⟩ | ⟨g, rfl, rfl⟩ | ⟨g, rfl, rfl⟩
    · exact ⟨by decide, by decide, by simp, by simp, by decide, .inr (.inl ⟨rfl, rfl⟩), by omega⟩
    · exact ⟨by decide, by decide, by simp, by simp, by decide, .inr (.inr (.inl ⟨hlt, by omega, rfl⟩)), by omega⟩
    · refine ⟨by decide, by decide, by simp, by simp, by decide, .inr (.inr (.inr ⟨hlt, by omega, ?_⟩)), by omega⟩
      rw [show n / 65536 % 256 = n / 65536 by omega]
      rfl
    · omega
  · rcases hI with ⟨rfl, rfl⟩ | ⟨rfl, rfl⟩ | ⟨g, rfl, rfl⟩ | ⟨g, rfl, rfl⟩
    · omega
    · refine ⟨by decide, by simp, by simp, ?_⟩
      rw [lngD, if_neg h, if_pos (by omega), show n % 256 = n by omega]
      rfl
    · refine ⟨by decide, by simp, by simp, ?_⟩
      rw [lngD, if_neg h, if_neg (by omega), if_pos (by omega), show n / 256 % 256 = n / 256 by omega]
      rfl
    · refine ⟨by decide, by simp, by simp, ?_⟩
      rw [lngD, if_neg h, if_neg (by omega), if_neg (by omega)]
      rfl
theorem h100 : c_r01_Length.ok Tryd.prog GL 100 := con_ok (H := {}) (mkEnv_ok (gl := GL) (l := []) (q := []) (d := []) _ tyOk (by kernel_rfl) trivial trivial trivial) (by kernel_rfl) (by kernel_rfl) (Eq.mp e100 k100)

def t76 : Prop :=
  ∀ (x : (Int × List Int) × Unit), Kd.wf (Kd.pair (Kd.int IntKind.i64) (Kd.sl (Kd.int IntKind.u8))) x.fst ∧ True → lenB x.fst.snd ≤ (16777215 : Nat) ∧ (0 : Int) ≤ x.fst.fst ∧ x.fst.fst ≤ (255
  : Int) → List.length [SV.dat (Kd.int IntKind.i64) x.fst.fst, SV.dat (Kd.sl (Kd.int IntKind.u8)) x.fst.snd] ≤ (65536 : Nat) ∧ (0 : Nat) < (1 : Nat) ∧ ((0 : Nat) + List.length [IntKind.wrap
  IntKind.u8 x.fst.fst]) * (1 : Nat) ≤ (140737488355328 : Nat) ∧ (0 : Nat) + List.length [IntKind.wrap IntKind.u8 x.fst.fst] ≤ (9223372036854775807 : Nat) ∧ ((0 : Int) ≤ (↑(List.length
  x.fst.snd) : Int) ∧ (↑(List.length x.fst.snd) : Int) ≤ (16777215 : Int)) ∧ (∀ (y : List Int × Unit), Kd.wf (Kd.sl (Kd.int IntKind.u8)) y.fst ∧ True → y.fst = lngD (↑(List.length x.fst.snd)
  : Int) → (0 : Nat) < (1 : Nat) ∧ (List.length ([] ++ [IntKind.wrap IntKind.u8 x.fst.fst]) + List.length y.fst) * (1 : Nat) ≤ (140737488355328 : Nat) ∧ List.length ([] ++ [IntKind.wrap
  IntKind.u8 x.fst.fst]) + List.length y.fst ≤ (9223372036854775807 : Nat) ∧ (0 : Nat) < (1 : Nat) ∧ (List.length ([] ++ [IntKind.wrap IntKind.u8 x.fst.fst] ++ y.fst) + List.length x.fst.snd)
  * (1 : Nat) ≤ (140737488355328 : Nat) ∧ List.length ([] ++ [IntKind.wrap IntKind.u8 x.fst.fst] ++ y.fst) + List.length x.fst.snd ≤ (9223372036854775807 : Nat) ∧ [] ++ [IntKind.wrap
  IntKind.u8 x.fst.fst] ++ y.fst ++ x.fst.snd = putB x.fst) ∧ True
theorem e76 : t76 = Con.vc c_r01_Bytes GL (mkEnv ty [(100, conSem c_r01_Length)] [] [] [0, 1, 2, 3]) {} Tryd.f76.ntmps Tryd.f76.results.toList (bodyOf Tryd.f76) := by kernel_rfl
theorem k76 : t76 := by
  unfold t76
  rintro ⟨⟨t, c⟩, _⟩ hx hp
  obtain ⟨h1, h2, h3⟩ := hp
  simp only [lenB] at h1 h2 h3
  try dsimp +instances only [dft_int, dft_sl, dft_str]
  simp only [true_and, and_true, eq_self_iff_true, implies_true, reduceCtorEq, false_implies, true_implies, decide_eq_true_eq, decide_eq_false_iff_not, beq_self_eq_true, Bool.not_eq_true', ne_eq, Decidable.not_not, List.nil_append, List.length_singleton, List.length_cons, List.length_nil, Nat.zero_add, Nat.add_zero, Nat.mul_one, and_self, beq_iff_eq, Bool.not_true, Bool.not_false, Bool.not_eq_false', Bool.cond_false_right, Bool.and_eq_true, imp_self, Bool.not_eq_true, Bool.cond_true_left, Bool.or_eq_true]
  have hll := lng_len (n := (c.length : Int))
  refine ⟨by decide, by decide, by decide, by decide, ⟨by omega, by omega⟩, ?_⟩
  rintro ⟨l, _⟩ _ el
  simp only at el ⊢
  subst el
  refine ⟨by decide, by omega, by omega, by decide, by simp only [List.length_append, List.length_singleton]; omega, by simp only [List.length_append, List.length_singleton]; omega, ?_⟩
  rw [wrap8 t h2 h3, putB]
  simp
theorem h76 : c_r01_Bytes.ok Tryd.prog GL 76 := con_ok (H := {}) (mkEnv_ok (gl := GL) (l := [(100, conSem c_r01_Length)]) (q := []) (d := []) _ tyOk (by kernel_rfl) ⟨h100.call, trivial⟩ trivial trivial) (by kernel_rfl) (by kernel_rfl) (Eq.mp e76 k76)

def t68 : Prop :=
  ∀ (x : List Int × Unit), Kd.wf (Kd.sl (Kd.int IntKind.u8)) x.fst ∧ True → lenB x.fst ≤ (1000000000 : Nat) → (2 : Nat) ≤ (65536 : Nat) ∧ (decide ((↑(List.length x.fst) : Int) = (0 : Int)) =
  true → (((0 : Int), []), (0 : Int), (10 : Int)) = takeD x.fst) ∧ (decide ((↑(List.length x.fst) : Int) = (0 : Int)) = false → ((0 : Int) ≤ (0 : Int) ∧ (0 : Int) < (↑(List.length x.fst) :
  Int)) ∧ True ∧ (∀ (y : Bool × Unit), Kd.wf Kd.bool y.fst ∧ True → y.fst = isTagD (IntKind.wrap IntKind.i64 (List.getD x.fst (0 : Nat) (Kd.dft (Kd.int IntKind.u8)))) → ((!y.fst) = true →
  (((0 : Int), []), (0 : Int), (11 : Int)) = takeD x.fst) ∧ ((!y.fst) = false → (decide ((↑(List.length x.fst) : Int) = (1 : Int)) = true → (((0 : Int), []), (0 : Int), (10 : Int)) = takeD
  x.fst) ∧ (decide ((↑(List.length x.fst) : Int) = (1 : Int)) = false → ((0 : Int) ≤ (1 : Int) ∧ (1 : Int) < (↑(List.length x.fst) : Int)) ∧ (decide (IntKind.wrap IntKind.i64 (List.getD x.fst
  (1 : Nat) (Kd.dft (Kd.int IntKind.u8))) = (128 : Int)) = false → True) ∧ (decide (IntKind.wrap IntKind.i64 (List.getD x.fst (1 : Nat) (Kd.dft (Kd.int IntKind.u8))) = (128 : Int)) = false →
  (decide (IntKind.wrap IntKind.i64 (List.getD x.fst (1 : Nat) (Kd.dft (Kd.int IntKind.u8))) = (128 : Int)) == false) = true ∧ True) ∧ (decide (IntKind.wrap IntKind.i64 (List.getD x.fst (1 :
  Nat) (Kd.dft (Kd.int IntKind.u8))) = (128 : Int)) = false → (decide (IntKind.wrap IntKind.i64 (List.getD x.fst (1 : Nat) (Kd.dft (Kd.int IntKind.u8))) = (128 : Int)) == false) = true) ∧
  ((bif decide (IntKind.wrap IntKind.i64 (List.getD x.fst (1 : Nat) (Kd.dft (Kd.int IntKind.u8))) = (128 : Int)) then true else decide ((131 : Int) < IntKind.wrap IntKind.i64 (List.getD x.fst
  (1 : Nat) (Kd.dft (Kd.int IntKind.u8))))) = true → (((0 : Int), []), (0 : Int), (12 : Int)) = takeD x.fst) ∧ ((bif decide (IntKind.wrap IntKind.i64 (List.getD x.fst (1 : Nat) (Kd.dft
  (Kd.int IntKind.u8))) = (128 : Int)) then true else decide ((131 : Int) < IntKind.wrap IntKind.i64 (List.getD x.fst (1 : Nat) (Kd.dft (Kd.int IntKind.u8))))) = false → ∃ (J : Int × Int ×
  Int × Int × Unit → (Int × Unit) × Unit → Prop), ((decide ((128 : Int) < IntKind.wrap IntKind.i64 (List.getD x.fst (1 : Nat) (Kd.dft (Kd.int IntKind.u8)))) = true → (decide ((2 : Int) <
  (↑(List.length x.fst) : Int)) = true → True) ∧ (decide ((2 : Int) < (↑(List.length x.fst) : Int)) = true → (decide ((2 : Int) < (↑(List.length x.fst) : Int)) == true) = true ∧ ((0 : Int) ≤
  (2 : Int) ∧ (2 : Int) < (↑(List.length x.fst) : Int)) ∧ True) ∧ (decide ((2 : Int) < (↑(List.length x.fst) : Int)) = true → (decide ((2 : Int) < (↑(List.length x.fst) : Int)) == true) =
  true ∧ True) ∧ (decide ((2 : Int) < (↑(List.length x.fst) : Int)) = true → (decide ((2 : Int) < (↑(List.length x.fst) : Int)) == true) = true ∧ True) ∧ (decide ((2 : Int) < (↑(List.length
  x.fst) : Int)) = true → (decide ((2 : Int) < (↑(List.length x.fst) : Int)) == true) = true) ∧ ((bif decide ((2 : Int) < (↑(List.length x.fst) : Int)) then decide (List.getD x.fst (2 : Nat)
  (Kd.dft (Kd.int IntKind.u8)) = (0 : Int)) else false) = true → (((0 : Int), []), (0 : Int), (12 : Int)) = takeD x.fst) ∧ ((bif decide ((2 : Int) < (↑(List.length x.fst) : Int)) then decide
  (List.getD x.fst (2 : Nat) (Kd.dft (Kd.int IntKind.u8)) = (0 : Int)) else false) = false → (decide ((↑(List.length x.fst) : Int) < IntKind.wrap IntKind.i64 ((2 : Int) + IntKind.wrap
  IntKind.i64 (IntKind.wrap IntKind.i64 (List.getD x.fst (1 : Nat) (Kd.dft (Kd.int IntKind.u8))) - (128 : Int)))) = true → (((0 : Int), []), (0 : Int), (10 : Int)) = takeD x.fst) ∧ (decide
  ((↑(List.length x.fst) : Int) < IntKind.wrap IntKind.i64 ((2 : Int) + IntKind.wrap IntKind.i64 (IntKind.wrap IntKind.i64 (List.getD x.fst (1 : Nat) (Kd.dft (Kd.int IntKind.u8))) - (128 :
  Int)))) = false → ∃ (I : Int × Int × Unit → Unit × Unit → Prop), ∃ (μ : Int × Int × Unit → Unit × Unit → Nat), (Value.bool false = Value.bool false ∧ Value.bool false = Value.bool false ∧
  IntKind.wrap IntKind.i64 (IntKind.wrap IntKind.i64 (List.getD x.fst (1 : Nat) (Kd.dft (Kd.int IntKind.u8))) - (128 : Int)) = IntKind.wrap IntKind.i64 (IntKind.wrap IntKind.i64 (List.getD
  x.fst (1 : Nat) (Kd.dft (Kd.int IntKind.u8))) - (128 : Int)) ∧ Value.bool true = Value.bool true ∧ Value.bool false = Value.bool false ∧ (2 : Int) = (2 : Int) ∧ Value.bool false =
  Value.bool false ∧ Value.bool false = Value.bool false ∧ Value.bool false = Value.bool false ∧ (0 : Int) = (0 : Int) ∧ (0 : Int) = (0 : Int) ∧ x.fst = x.fst ∧ (0 : Int) = (0 : Int) ∧
  Value.slice none (0 : Nat) (0 : Nat) = Value.slice none (0 : Nat) (0 : Nat) ∧ I ((0 : Int), (0 : Int), ()) ((), ())) ∧ ∀ (y : Int × Int × Unit) (z : Unit × Unit), Kd.wf (Kd.int IntKind.i64)
  y.fst ∧ Kd.wf (Kd.int IntKind.i64) y.snd.fst ∧ True → True ∧ True → I y z → (decide (y.fst < IntKind.wrap IntKind.i64 (IntKind.wrap IntKind.i64 (List.getD x.fst (1 : Nat) (Kd.dft (Kd.int
  IntKind.u8))) - (128 : Int))) = true → ((0 : Int) ≤ IntKind.wrap IntKind.i64 ((2 : Int) + y.fst) ∧ IntKind.wrap IntKind.i64 ((2 : Int) + y.fst) < (↑(List.length x.fst) : Int)) ∧ Value.bool
  false = Value.bool false ∧ Value.bool false = Value.bool false ∧ IntKind.wrap IntKind.i64 (IntKind.wrap IntKind.i64 (List.getD x.fst (1 : Nat) (Kd.dft (Kd.int IntKind.u8))) - (128 : Int)) =
  IntKind.wrap IntKind.i64 (IntKind.wrap IntKind.i64 (List.getD x.fst (1 : Nat) (Kd.dft (Kd.int IntKind.u8))) - (128 : Int)) ∧ Value.bool true = Value.bool true ∧ Value.bool false =
  Value.bool false ∧ (2 : Int) = (2 : Int) ∧ Value.bool false = Value.bool false ∧ Value.bool false = Value.bool false ∧ Value.bool false = Value.bool false ∧ (0 : Int) = (0 : Int) ∧ (0 :
  Int) = (0 : Int) ∧ x.fst = x.fst ∧ (0 : Int) = (0 : Int) ∧ Value.slice none (0 : Nat) (0 : Nat) = Value.slice none (0 : Nat) (0 : Nat) ∧ I (IntKind.wrap IntKind.i64 (y.fst + (1 : Int)),
  IntKind.wrap IntKind.i64 (IntKind.wrap IntKind.i64 ((256 : Int) * y.snd.fst) + IntKind.wrap IntKind.i64 (List.getD x.fst (Int.toNat (IntKind.wrap IntKind.i64 ((2 : Int) + y.fst))) (Kd.dft
  (Kd.int IntKind.u8)))), ()) ((), ()) ∧ μ (IntKind.wrap IntKind.i64 (y.fst + (1 : Int)), IntKind.wrap IntKind.i64 (IntKind.wrap IntKind.i64 ((256 : Int) * y.snd.fst) + IntKind.wrap
  IntKind.i64 (List.getD x.fst (Int.toNat (IntKind.wrap IntKind.i64 ((2 : Int) + y.fst))) (Kd.dft (Kd.int IntKind.u8)))), ()) ((), ()) < μ y z) ∧ (decide (y.fst < IntKind.wrap IntKind.i64
  (IntKind.wrap IntKind.i64 (List.getD x.fst (1 : Nat) (Kd.dft (Kd.int IntKind.u8))) - (128 : Int))) = false → (decide (y.snd.fst < (128 : Int)) = true → (((0 : Int), []), (0 : Int), (12 :
  Int)) = takeD x.fst) ∧ (decide (y.snd.fst < (128 : Int)) = false → Value.bool false = Value.bool false ∧ Value.bool false = Value.bool false ∧ Value.bool false = Value.bool false ∧
  Value.bool false = Value.bool false ∧ x.fst = x.fst ∧ Value.slice none (0 : Nat) (0 : Nat) = Value.slice none (0 : Nat) (0 : Nat) ∧ J (IntKind.wrap IntKind.i64 ((2 : Int) + IntKind.wrap
  IntKind.i64 (IntKind.wrap IntKind.i64 (List.getD x.fst (1 : Nat) (Kd.dft (Kd.int IntKind.u8))) - (128 : Int))), y.snd.fst, (0 : Int), (0 : Int), ()) (((0 : Int), ()), ())))))) ∧ (decide
  ((128 : Int) < IntKind.wrap IntKind.i64 (List.getD x.fst (1 : Nat) (Kd.dft (Kd.int IntKind.u8)))) = false → Value.bool false = Value.bool false ∧ Value.bool false = Value.bool false ∧
  Value.bool false = Value.bool false ∧ Value.bool false = Value.bool false ∧ x.fst = x.fst ∧ Value.slice none (0 : Nat) (0 : Nat) = Value.slice none (0 : Nat) (0 : Nat) ∧ J ((2 : Int),
  IntKind.wrap IntKind.i64 (List.getD x.fst (1 : Nat) (Kd.dft (Kd.int IntKind.u8))), (0 : Int), (0 : Int), ()) (((0 : Int), ()), ()))) ∧ ∀ (u : Int × Int × Int × Int × Unit) (z : (Int × Unit)
  × Unit), Kd.wf (Kd.int IntKind.i64) u.fst ∧ Kd.wf (Kd.int IntKind.i64) u.snd.fst ∧ Kd.wf (Kd.int IntKind.i64) u.snd.snd.fst ∧ Kd.wf (Kd.int IntKind.i64) u.snd.snd.snd.fst ∧ True → (Kd.wf
  (Kd.int IntKind.i64) z.fst.fst ∧ True) ∧ True → J u z → (decide (IntKind.wrap IntKind.i64 ((↑(List.length x.fst) : Int) - u.fst) < u.snd.fst) = true → (((0 : Int), []), (0 : Int), (10 :
  Int)) = takeD x.fst) ∧ (decide (IntKind.wrap IntKind.i64 ((↑(List.length x.fst) : Int) - u.fst) < u.snd.fst) = false → ((0 : Int) ≤ (0 : Int) ∧ (0 : Int) < (↑(List.length x.fst) : Int)) ∧
  (((((0 : Int) ≤ u.fst ∧ u.fst ≤ IntKind.wrap IntKind.i64 (u.fst + u.snd.fst) ∧ IntKind.wrap IntKind.i64 (u.fst + u.snd.fst) ≤ (↑(List.length x.fst) : Int)) ∧ ((0 : Nat) < (1 : Nat) ∧ ((0 :
  Nat) + List.length (List.drop (Int.toNat u.fst) (List.take (Int.toNat (IntKind.wrap IntKind.i64 (u.fst + u.snd.fst))) x.fst))) * (1 : Nat) ≤ (140737488355328 : Nat) ∧ (0 : Nat) +
  List.length (List.drop (Int.toNat u.fst) (List.take (Int.toNat (IntKind.wrap IntKind.i64 (u.fst + u.snd.fst))) x.fst)) ≤ (9223372036854775807 : Nat) ∧ (((IntKind.wrap IntKind.i64 (List.getD
  x.fst (0 : Nat) (Kd.dft (Kd.int IntKind.u8))), [] ++ List.drop (Int.toNat u.fst) (List.take (Int.toNat (IntKind.wrap IntKind.i64 (u.fst + u.snd.fst))) x.fst)), IntKind.wrap IntKind.i64
  (u.fst + u.snd.fst), (0 : Int)) = takeD x.fst ∧ True) ∧ True) ∧ True) ∧ True) ∧ (((0 : Int) ≤ u.fst ∧ u.fst ≤ IntKind.wrap IntKind.i64 (u.fst + u.snd.fst) ∧ IntKind.wrap IntKind.i64 (u.fst
  + u.snd.fst) ≤ (↑(List.length x.fst) : Int)) ∧ (((0 : Nat) < (1 : Nat) ∧ ((0 : Nat) + List.length (List.drop (Int.toNat u.fst) (List.take (Int.toNat (IntKind.wrap IntKind.i64 (u.fst +
  u.snd.fst))) x.fst))) * (1 : Nat) ≤ (140737488355328 : Nat) ∧ (0 : Nat) + List.length (List.drop (Int.toNat u.fst) (List.take (Int.toNat (IntKind.wrap IntKind.i64 (u.fst + u.snd.fst)))
  x.fst)) ≤ (9223372036854775807 : Nat) ∧ (((IntKind.wrap IntKind.i64 (List.getD x.fst (0 : Nat) (Kd.dft (Kd.int IntKind.u8))), [] ++ List.drop (Int.toNat u.fst) (List.take (Int.toNat
  (IntKind.wrap IntKind.i64 (u.fst + u.snd.fst))) x.fst)), IntKind.wrap IntKind.i64 (u.fst + u.snd.fst), (0 : Int)) = takeD x.fst ∧ True) ∧ True) ∧ True) ∧ True) ∧ True) ∧ (((((0 : Int) ≤
  u.fst ∧ u.fst ≤ IntKind.wrap IntKind.i64 (u.fst + u.snd.fst) ∧ IntKind.wrap IntKind.i64 (u.fst + u.snd.fst) ≤ (↑(List.length x.fst) : Int)) ∧ ((0 : Nat) < (1 : Nat) ∧ ((0 : Nat) +
  List.length (List.drop (Int.toNat u.fst) (List.take (Int.toNat (IntKind.wrap IntKind.i64 (u.fst + u.snd.fst))) x.fst))) * (1 : Nat) ≤ (140737488355328 : Nat) ∧ (0 : Nat) + List.length
  (List.drop (Int.toNat u.fst) (List.take (Int.toNat (IntKind.wrap IntKind.i64 (u.fst + u.snd.fst))) x.fst)) ≤ (9223372036854775807 : Nat) ∧ (((IntKind.wrap IntKind.i64 (List.getD x.fst (0 :
  Nat) (Kd.dft (Kd.int IntKind.u8))), [] ++ List.drop (Int.toNat u.fst) (List.take (Int.toNat (IntKind.wrap IntKind.i64 (u.fst + u.snd.fst))) x.fst)), IntKind.wrap IntKind.i64 (u.fst +
  u.snd.fst), (0 : Int)) = takeD x.fst ∧ True) ∧ True) ∧ True) ∧ True) ∧ (((0 : Int) ≤ u.fst ∧ u.fst ≤ IntKind.wrap IntKind.i64 (u.fst + u.snd.fst) ∧ IntKind.wrap IntKind.i64 (u.fst +
  u.snd.fst) ≤ (↑(List.length x.fst) : Int)) ∧ (((0 : Nat) < (1 : Nat) ∧ ((0 : Nat) + List.length (List.drop (Int.toNat u.fst) (List.take (Int.toNat (IntKind.wrap IntKind.i64 (u.fst +
  u.snd.fst))) x.fst))) * (1 : Nat) ≤ (140737488355328 : Nat) ∧ (0 : Nat) + List.length (List.drop (Int.toNat u.fst) (List.take (Int.toNat (IntKind.wrap IntKind.i64 (u.fst + u.snd.fst)))
  x.fst)) ≤ (9223372036854775807 : Nat) ∧ (((IntKind.wrap IntKind.i64 (List.getD x.fst (0 : Nat) (Kd.dft (Kd.int IntKind.u8))), [] ++ List.drop (Int.toNat u.fst) (List.take (Int.toNat
  (IntKind.wrap IntKind.i64 (u.fst + u.snd.fst))) x.fst)), IntKind.wrap IntKind.i64 (u.fst + u.snd.fst), (0 : Int)) = takeD x.fst ∧ True) ∧ True) ∧ True) ∧ ((0 : Nat) < (1 : Nat) ∧ ((0 : Nat)
  + List.length (List.drop (Int.toNat u.fst) (List.take (Int.toNat (IntKind.wrap IntKind.i64 (u.fst + u.snd.fst))) x.fst))) * (1 : Nat) ≤ (140737488355328 : Nat) ∧ (0 : Nat) + List.length
  (List.drop (Int.toNat u.fst) (List.take (Int.toNat (IntKind.wrap IntKind.i64 (u.fst + u.snd.fst))) x.fst)) ≤ (9223372036854775807 : Nat) ∧ ((((IntKind.wrap IntKind.i64 (List.getD x.fst (0 :
  Nat) (Kd.dft (Kd.int IntKind.u8))), [] ++ List.drop (Int.toNat u.fst) (List.take (Int.toNat (IntKind.wrap IntKind.i64 (u.fst + u.snd.fst))) x.fst)), IntKind.wrap IntKind.i64 (u.fst +
  u.snd.fst), (0 : Int)) = takeD x.fst ∧ True) ∧ True) ∧ True) ∧ True) ∧ True) ∧ (((0 : Int) ≤ u.fst ∧ u.fst ≤ IntKind.wrap IntKind.i64 (u.fst + u.snd.fst) ∧ IntKind.wrap IntKind.i64 (u.fst +
  u.snd.fst) ≤ (↑(List.length x.fst) : Int)) ∧ ((((0 : Nat) < (1 : Nat) ∧ ((0 : Nat) + List.length (List.drop (Int.toNat u.fst) (List.take (Int.toNat (IntKind.wrap IntKind.i64 (u.fst +
  u.snd.fst))) x.fst))) * (1 : Nat) ≤ (140737488355328 : Nat) ∧ (0 : Nat) + List.length (List.drop (Int.toNat u.fst) (List.take (Int.toNat (IntKind.wrap IntKind.i64 (u.fst + u.snd.fst)))
  x.fst)) ≤ (9223372036854775807 : Nat) ∧ (((IntKind.wrap IntKind.i64 (List.getD x.fst (0 : Nat) (Kd.dft (Kd.int IntKind.u8))), [] ++ List.drop (Int.toNat u.fst) (List.take (Int.toNat
  (IntKind.wrap IntKind.i64 (u.fst + u.snd.fst))) x.fst)), IntKind.wrap IntKind.i64 (u.fst + u.snd.fst), (0 : Int)) = takeD x.fst ∧ True) ∧ True) ∧ True) ∧ True) ∧ ((((0 : Nat) < (1 : Nat) ∧
  ((0 : Nat) + List.length (List.drop (Int.toNat u.fst) (List.take (Int.toNat (IntKind.wrap IntKind.i64 (u.fst + u.snd.fst))) x.fst))) * (1 : Nat) ≤ (140737488355328 : Nat) ∧ (0 : Nat) +
  List.length (List.drop (Int.toNat u.fst) (List.take (Int.toNat (IntKind.wrap IntKind.i64 (u.fst + u.snd.fst))) x.fst)) ≤ (9223372036854775807 : Nat) ∧ (((IntKind.wrap IntKind.i64 (List.getD
  x.fst (0 : Nat) (Kd.dft (Kd.int IntKind.u8))), [] ++ List.drop (Int.toNat u.fst) (List.take (Int.toNat (IntKind.wrap IntKind.i64 (u.fst + u.snd.fst))) x.fst)), IntKind.wrap IntKind.i64
  (u.fst + u.snd.fst), (0 : Int)) = takeD x.fst ∧ True) ∧ True) ∧ True) ∧ ((0 : Nat) < (1 : Nat) ∧ ((0 : Nat) + List.length (List.drop (Int.toNat u.fst) (List.take (Int.toNat (IntKind.wrap
  IntKind.i64 (u.fst + u.snd.fst))) x.fst))) * (1 : Nat) ≤ (140737488355328 : Nat) ∧ (0 : Nat) + List.length (List.drop (Int.toNat u.fst) (List.take (Int.toNat (IntKind.wrap IntKind.i64
  (u.fst + u.snd.fst))) x.fst)) ≤ (9223372036854775807 : Nat) ∧ ((((IntKind.wrap IntKind.i64 (List.getD x.fst (0 : Nat) (Kd.dft (Kd.int IntKind.u8))), [] ++ List.drop (Int.toNat u.fst)
  (List.take (Int.toNat (IntKind.wrap IntKind.i64 (u.fst + u.snd.fst))) x.fst)), IntKind.wrap IntKind.i64 (u.fst + u.snd.fst), (0 : Int)) = takeD x.fst ∧ True) ∧ True) ∧ True) ∧ True) ∧ True)
  ∧ True))))) ∧ True)
theorem e68 : t68 = Con.vc c_r01_Take GL (mkEnvO ty [(94, conSem c_r01_IsTag)] [] [] [0, 2, 3, 4, 5, 6, 7, 8, 11, 18, 22, 33, 36, 47, 53, 57, 70, 79] [1000000]) {joins := [25]} Tryd.f68.ntmps Tryd.f68.results.toList (bodyOf Tryd.f68) := by kernel_rfl
theorem k68 : t68 := by
  unfold t68
  rintro ⟨b, _⟩ hx hp
  have hp : b.length ≤ 1000000000 := hp
  have hb : Bys b := sl_bys hx.1
  try dsimp +instances only [dft_int, dft_sl, dft_str]
  simp only [true_and, and_true, eq_self_iff_true, implies_true, reduceCtorEq, false_implies, true_implies, decide_eq_true_eq, decide_eq_false_iff_not, beq_self_eq_true, Bool.not_eq_true', ne_eq, Decidable.not_not, List.nil_append, List.length_singleton, List.length_cons, List.length_nil, Nat.zero_add, Nat.add_zero, Nat.mul_one, and_self, beq_iff_eq, Bool.not_true, Bool.not_false, Bool.not_eq_false', Bool.cond_false_right, Bool.and_eq_true, imp_self, Bool.not_eq_true, Bool.cond_true_left, Bool.or_eq_true]
  have b0 := bys_get hb 0
  have b1 := bys_get hb 1
  rw [wrapK (b.getD 0 0) (by omega) (by omega), wrapK (b.getD 1 0) (by omega) (by omega), wrapK (b.getD 1 0 - 128) (by omega) (by omega), wrapK (2 + (b.getD 1 0 - 128)) (by omega) (by omega)]
  have hnil : b = [] ↔ (b.length : Int) = 0 := ⟨fun h => by rw [h]; rfl, fun h => List.eq_nil_of_length_eq_zero (by omega)⟩
  refine ⟨by decide, fun h => (take_bad (by rw [headK, if_pos (hnil.2 h)]) (by decide)).symm, fun h => ⟨⟨by decide, by omega⟩, ?_⟩⟩
  have c1 : ¬ b = [] := fun e => h (hnil.1 e)
  rintro ⟨q, _⟩ _ eq
  simp only at eq ⊢
  subst eq
  refine ⟨fun h1 => (take_bad (by rw [headK, if_neg c1, if_pos h1]) (by decide)).symm, fun h1 => ?_⟩
  have c2 : ¬ isTagD (b.getD 0 0) = false := by rw [h1]; decide
  refine ⟨fun h2 => (take_bad (by rw [headK, if_neg c1, if_neg c2, if_pos (by omega)]) (by decide)).symm, fun h2 => ⟨⟨by decide, by omega⟩, fun h3 => ?_, fun h3 => ?_⟩⟩
  · refine (take_bad ?_ (by decide)).symm
    rw [headK, if_neg c1, if_neg c2, if_neg (by omega), if_neg (by omega), if_pos (by omega)]
  have c3 : ¬ b.length = 1 := by omega
  have h3' : ¬ b.getD 1 0 = 128 ∧ ¬ 131 < b.getD 1 0 := by
    simp only [Bool.or_eq_false_iff, decide_eq_false_iff_not] at h3
    exact h3
  refine ⟨fun u _ => headK b = (b.getD 0 0, u.1, u.2.1, 0), ⟨fun h4 => ⟨fun g => ⟨g, by decide, g⟩, fun g => ?_, fun g => ⟨fun h5 => ?_, fun h5 => ?_⟩⟩, fun h4 => ?_⟩, ?_⟩
  · refine (take_bad ?_ (by decide)).symm
    rw [headK, if_neg c1, if_neg c2, if_neg c3, if_neg (by omega), if_pos (.inr (.inr ⟨by omega, g.2⟩))]
  · have g2 : ¬ (b.getD 1 0 = 128 ∨ 131 < b.getD 1 0 ∨ (2 < b.length ∧ b.getD 2 0 = 0)) := by
      simp only [Bool.and_eq_false_iff, decide_eq_false_iff_not] at g
      omega
    refine (take_bad ?_ (by decide)).symm
    rw [headK, if_neg c1, if_neg c2, if_neg c3, if_neg (by omega), if_neg g2, if_pos h5]
  · have g2 : ¬ (b.getD 1 0 = 128 ∨ 131 < b.getD 1 0 ∨ (2 < b.length ∧ b.getD 2 0 = 0)) := by
      simp only [Bool.and_eq_false_iff, decide_eq_false_iff_not] at g
      omega
    have hl : ((b.drop 2).take (b.getD 1 0 - 128).toNat).length = (b.getD 1 0 - 128).toNat := by rw [List.length_take, List.length_drop]; omega
    have hbl : Bys ((b.drop 2).take (b.getD 1 0 - 128).toNat) := bys_take (bys_drop hb 2) _
    refine ⟨fun y _ => 0 ≤ y.1 ∧ y.1 ≤ b.getD 1 0 - 128 ∧ y.2.1 = numB (((b.drop 2).take (b.getD 1 0 - 128).toNat).take y.1.toNat), fun y _ => (b.getD 1 0 - 128 - y.1).toNat, ⟨Int.le_refl 0, by simp only; omega, rfl⟩, ?_⟩
    rintro ⟨i, n, _⟩ _ _ ⟨i0, i1, en⟩
    simp only at i0 i1 en ⊢
    refine ⟨fun hlt => ?_, fun hge => ?_⟩
    · have hnb := num_bound hbl (j := i.toNat) (by omega)
      rw [← en] at hnb
      rw [wrapK (2 + i) (by omega) (by omega)]
      have hg : ((b.drop 2).take (b.getD 1 0 - 128).toNat).getD i.toNat 0 = b.getD (2 + i).toNat 0 := by
        rw [getD_take _ _ _ (by omega), getD_drop, show 2 + i.toNat = (2 + i).toNat by omega]
      have hbi := bys_get hb (2 + i).toNat
      rw [wrapK (i + 1) (by omega) (by omega), wrapK (256 * n) (by omega) (by omega), wrapK (b.getD (2 + i).toNat 0) (by omega) (by omega), wrapK _ (by omega) (by omega)]
      refine ⟨⟨by omega, by omega⟩, ⟨by omega, by omega, ?_⟩, by omega⟩
      rw [show (i + 1).toNat = i.toNat + 1 by omega, take_snoc _ _ (by omega), num_snoc, en, hg]
    · rw [List.take_of_length_le (by omega)] at en
      rw [en]
      refine ⟨fun h6 => (take_bad ?_ (by decide)).symm, fun h6 => ?_⟩
      · rw [headK, if_neg c1, if_neg c2, if_neg c3, if_neg (by omega), if_neg g2, if_neg h5, if_pos h6]
      · rw [headK, if_neg c1, if_neg c2, if_neg c3, if_neg (by omega), if_neg g2, if_neg h5, if_neg h6]
  · rw [headK, if_neg c1, if_neg c2, if_neg c3, if_pos (by omega)]
  · rintro ⟨f, n, j1, j2, _⟩ _ _ _ hK
    simp only at hK ⊢
    have hok := head_ok hb (by rw [hK])
    rw [hK] at hok
    simp only at hok
    rw [take_good hK, wrapK ((b.length : Int) - f) (by omega) (by omega)]
    refine ⟨fun h6 => by rw [if_pos h6], fun h6 => ?_⟩
    rw [if_neg h6, wrapK (f + n) (by omega) (by omega)]
    refine ⟨⟨by decide, by omega⟩, ⟨by omega, by omega, by omega⟩, by decide, by rw [List.length_drop, List.length_take]; omega, by rw [List.length_drop, List.length_take]; omega, ?_⟩
    rw [List.drop_take, show (f + n).toNat - f.toNat = n.toNat by omega]
theorem h68 : c_r01_Take.ok Tryd.prog GL 68 := conO_ok (H := {joins := [25]}) (mkEnvO_ok (gl := GL) (l := [(94, conSem c_r01_IsTag)]) (q := []) (d := []) _ [1000000] tyOk (by kernel_rfl) ⟨h94.call, trivial⟩ trivial trivial) (by kernel_rfl) (by kernel_rfl) (Eq.mp e68 k68)

def t45 : Prop :=
  ∀ (x : List Int × Unit), Kd.wf (Kd.sl (Kd.int IntKind.u8)) x.fst ∧ True → lenB x.fst ≤ (1000000000 : Nat) → (2 : Nat) ≤ (65536 : Nat) ∧ lenB x.fst ≤ (1000000000 : Nat) ∧ (∀ (y : (Int × List
  Int) × Int × Int × Unit), Kd.wf (Kd.pair (Kd.int IntKind.i64) (Kd.sl (Kd.int IntKind.u8))) y.fst ∧ Kd.wf (Kd.int IntKind.i64) y.snd.fst ∧ Kd.wf (Kd.int IntKind.i64) y.snd.snd.fst ∧ True →
  (y.fst, y.snd.fst, y.snd.snd.fst) = takeD x.fst → (2 : Nat) ≤ (65536 : Nat) ∧ (decide (y.snd.snd.fst = (0 : Int)) = true → True) ∧ (decide (y.snd.snd.fst = (0 : Int)) = true → True) ∧
  (decide (y.snd.snd.fst = (0 : Int)) = true → (decide (y.snd.snd.fst = (0 : Int)) == true) = true ∧ True) ∧ (decide (y.snd.snd.fst = (0 : Int)) = true → (decide (y.snd.snd.fst = (0 : Int))
  == true) = true ∧ (decide (y.snd.snd.fst = (0 : Int)) == true) = true ∧ True) ∧ (decide (y.snd.snd.fst = (0 : Int)) = true → (decide (y.snd.snd.fst = (0 : Int)) == true) = true) ∧ ((bif
  decide (y.snd.snd.fst = (0 : Int)) then decide (y.snd.fst ≠ (↑(List.length x.fst) : Int)) else false) = true → (((0 : Int), []), (13 : Int)) = oneD x.fst) ∧ ((bif decide (y.snd.snd.fst = (0
  : Int)) then decide (y.snd.fst ≠ (↑(List.length x.fst) : Int)) else false) = false → ((y.fst.fst, y.fst.snd), y.snd.snd.fst) = oneD x.fst)) ∧ True
theorem e45 : t45 = Con.vc c_r01_One GL (mkEnv ty [(68, conSem c_r01_Take)] [] [] [0, 2, 3, 4, 5, 6, 20]) {} Tryd.f45.ntmps Tryd.f45.results.toList (bodyOf Tryd.f45) := by kernel_rfl
theorem k45 : t45 := by
  unfold t45
  rintro ⟨b, _⟩ hx hp
  have hp : b.length ≤ 1000000000 := hp
  have hb : Bys b := sl_bys hx.1
  try dsimp +instances only [dft_int, dft_sl, dft_str]
  simp only [true_and, and_true, eq_self_iff_true, implies_true, reduceCtorEq, false_implies, true_implies, decide_eq_true_eq, decide_eq_false_iff_not, beq_self_eq_true, Bool.not_eq_true', ne_eq, Decidable.not_not, List.nil_append, List.length_singleton, List.length_cons, List.length_nil, Nat.zero_add, Nat.add_zero, Nat.mul_one, and_self, beq_iff_eq, Bool.not_true, Bool.not_false, Bool.not_eq_false', Bool.cond_false_right, Bool.and_eq_true, imp_self, Bool.not_eq_true, Bool.cond_true_left, Bool.or_eq_true]
  refine ⟨by decide, hp, ?_⟩
  rintro ⟨⟨t, c⟩, n, e, _⟩ _ eT
  simp only at eT ⊢
  have hok : e = 0 → n ≤ b.length := fun he => by
    have := take_ok hb (by rw [← eT]; exact he)
    rw [← eT] at this
    exact this.2
  refine ⟨by decide, fun h => ?_, fun h => ?_⟩
  · have := hok h.1
    rw [oneD, ← eT, if_pos ⟨h.1, by simp only; omega⟩]
  · rw [oneD, ← eT, if_neg (fun hh => by
      simp only [Bool.and_eq_false_iff, decide_eq_false_iff_not, Decidable.not_not] at h hh
      exact h.elim (fun h => h hh.1) (fun h => by omega))]
theorem h45 : c_r01_One.ok Tryd.prog GL 45 := con_ok (H := {}) (mkEnv_ok (gl := GL) (l := [(68, conSem c_r01_Take)]) (q := []) (d := []) _ tyOk (by kernel_rfl) ⟨h68.call, trivial⟩ trivial trivial) (by kernel_rfl) (by kernel_rfl) (Eq.mp e45 k45)

def t111 : Prop :=
  ∀ (x : List Int × Unit), Kd.wf (Kd.sl (Kd.int IntKind.u8)) x.fst ∧ True → lenB x.fst ≤ (1000000000 : Nat) → ∃ (I : Int × Int × Int × Unit → List Int × List (Int × List Int) × List Int ×
  List (Int × List Int) × Unit → Prop), ∃ (μ : Int × Int × Int × Unit → List Int × List (Int × List Int) × List Int × List (Int × List Int) × Unit → Nat), (x.fst = x.fst ∧ I ((0 : Int), (0 :
  Int), (0 : Int), ()) ([], [], [], [], ())) ∧ ∀ (y : Int × Int × Int × Unit) (z : List Int × List (Int × List Int) × List Int × List (Int × List Int) × Unit), Kd.wf (Kd.int IntKind.i64)
  y.fst ∧ Kd.wf (Kd.int IntKind.i64) y.snd.fst ∧ Kd.wf (Kd.int IntKind.i64) y.snd.snd.fst ∧ True → Kd.wf (Kd.sl (Kd.int IntKind.i64)) z.fst ∧ Kd.wf (Kd.sl (Kd.pair (Kd.int IntKind.i64) (Kd.sl
  (Kd.int IntKind.u8)))) z.snd.fst ∧ Kd.wf (Kd.sl (Kd.int IntKind.i64)) z.snd.snd.fst ∧ Kd.wf (Kd.sl (Kd.pair (Kd.int IntKind.i64) (Kd.sl (Kd.int IntKind.u8)))) z.snd.snd.snd.fst ∧ True → I y
  z → (decide (y.fst < (↑(List.length x.fst) : Int)) = true → ((0 : Int) ≤ y.fst ∧ y.fst ≤ (↑(List.length x.fst) : Int)) ∧ lenB (List.drop (Int.toNat y.fst) x.fst) ≤ (1000000000 : Nat) ∧ (∀
  (y_1 : (Int × List Int) × Int × Int × Unit), Kd.wf (Kd.pair (Kd.int IntKind.i64) (Kd.sl (Kd.int IntKind.u8))) y_1.fst ∧ Kd.wf (Kd.int IntKind.i64) y_1.snd.fst ∧ Kd.wf (Kd.int IntKind.i64)
  y_1.snd.snd.fst ∧ True → (y_1.fst, y_1.snd.fst, y_1.snd.snd.fst) = takeD (List.drop (Int.toNat y.fst) x.fst) → (2 : Nat) ≤ (65536 : Nat) ∧ (decide (y_1.snd.snd.fst ≠ (0 : Int)) = true →
  z.snd.fst = List.map (fun (x : Int × Int × List Int) => x.snd) (rowD x.fst).fst ∧ z.fst = List.map (fun (x : Int × Int × List Int) => x.fst) (rowD x.fst).fst ∧ (y.fst, y_1.snd.snd.fst) =
  (rowD x.fst).snd) ∧ (decide (y_1.snd.snd.fst ≠ (0 : Int)) = false → (0 : Nat) < (2 : Nat) ∧ (List.length z.snd.fst + List.length [(y_1.fst.fst, y_1.fst.snd)]) * (32 : Nat) ≤
  (140737488355328 : Nat) ∧ List.length z.snd.fst + List.length [(y_1.fst.fst, y_1.fst.snd)] ≤ (9223372036854775807 : Nat) ∧ (0 : Nat) < (1 : Nat) ∧ (List.length z.fst + List.length [y.fst])
  * (8 : Nat) ≤ (140737488355328 : Nat) ∧ List.length z.fst + List.length [y.fst] ≤ (9223372036854775807 : Nat) ∧ x.fst = x.fst ∧ I (IntKind.wrap IntKind.i64 (y.fst + y_1.snd.fst), y.snd.fst,
  y.snd.snd.fst, ()) (z.fst ++ [y.fst], z.snd.fst ++ [(y_1.fst.fst, y_1.fst.snd)], z.snd.snd.fst, z.snd.snd.snd.fst, ()) ∧ μ (IntKind.wrap IntKind.i64 (y.fst + y_1.snd.fst), y.snd.fst,
  y.snd.snd.fst, ()) (z.fst ++ [y.fst], z.snd.fst ++ [(y_1.fst.fst, y_1.fst.snd)], z.snd.snd.fst, z.snd.snd.snd.fst, ()) < μ y z)) ∧ True) ∧ (decide (y.fst < (↑(List.length x.fst) : Int)) =
  false → z.snd.fst = List.map (fun (x : Int × Int × List Int) => x.snd) (rowD x.fst).fst ∧ z.fst = List.map (fun (x : Int × Int × List Int) => x.fst) (rowD x.fst).fst ∧ (y.fst, (0 : Int)) =
  (rowD x.fst).snd)
theorem e111 : t111 = Con.vc c_r01_Row GL (mkEnv ty [(68, conSem c_r01_Take)] [] [] [0, 2, 3, 4, 5, 6, 7, 8, 9, 10, 11, 15, 25]) {} Tryd.f111.ntmps Tryd.f111.results.toList (bodyOf Tryd.f111) := by kernel_rfl
theorem k111 : t111 := by
  unfold t111
  rintro ⟨b, _⟩ hx hp
  have hp : b.length ≤ 1000000000 := hp
  have hb : Bys b := sl_bys hx.1
  try dsimp +instances only [dft_int, dft_sl, dft_str]
  simp only [true_and, and_true, eq_self_iff_true, implies_true, reduceCtorEq, false_implies, true_implies, decide_eq_true_eq, decide_eq_false_iff_not, beq_self_eq_true, Bool.not_eq_true', ne_eq, Decidable.not_not, List.nil_append, List.length_singleton, List.length_cons, List.length_nil, Nat.zero_add, Nat.add_zero, Nat.mul_one, and_self, beq_iff_eq, Bool.not_true, Bool.not_false, Bool.not_eq_false', Bool.cond_false_right, Bool.and_eq_true, imp_self, Bool.not_eq_true, Bool.cond_true_left, Bool.or_eq_true]
  refine ⟨fun y z => 0 ≤ y.1 ∧ y.1 ≤ b.length ∧ (z.1 : List Int).length ≤ y.1 ∧ ∃ (k : Nat) (pre : List (Int × EltT)), (b.length : Int) - y.1 ≤ k ∧ rowD b = (pre ++ (rowR b k y.1).1, (rowR b k y.1).2) ∧ z.2.1 = pre.map (·.2) ∧ z.1 = pre.map (·.1), fun y _ => ((b.length : Int) - y.1).toNat, ⟨Int.le_refl 0, by simp only; omega, by simp, b.length, [], by simp only; omega, rfl, rfl, rfl⟩, ?_⟩
  rintro ⟨i, u1, u2, _⟩ ⟨ps, out, v1, v2, _⟩ _ _ ⟨i0, i1, hl, k, pre, hk, hr, eout, eps⟩
  simp only at i0 i1 hl hk hr eout eps ⊢
  have hlo : out.length = ps.length := by rw [eout, eps, List.length_map, List.length_map]
  refine ⟨fun hlt => ⟨⟨i0, by omega⟩, by rw [lenB, List.length_drop]; omega, ?_⟩, fun hge => ?_⟩
  · rintro ⟨⟨t, c⟩, n, e, _⟩ _ eT
    simp only at eT ⊢
    obtain ⟨m, rfl⟩ : ∃ m, k = m + 1 := ⟨k - 1, by omega⟩
    have hbd : Bys (b.drop i.toNat) := bys_drop hb _
    refine ⟨by decide, fun he => ?_, fun he => ?_⟩
    · have bad : (takeD (b.drop i.toNat)).2.2 ≠ 0 := by rw [← eT]; exact he
      rw [row_bad b m i hlt bad, ← eT] at hr
      rw [hr]
      simp only [List.append_nil]
      exact ⟨eout, eps, by trivial⟩
    · subst he
      have ok : (takeD (b.drop i.toNat)).2.2 = 0 := by rw [← eT]
      have h2 := take_ok hbd ok
      rw [row_step b m i hlt ok] at hr
      rw [← eT] at h2 hr
      simp only at h2 hr
      rw [List.length_drop] at h2
      rw [wrapK (i + n) (by omega) (by omega)]
      refine ⟨by decide, by omega, by omega, by decide, by omega, by omega, ⟨by omega, by omega, by rw [List.length_append, List.length_singleton]; omega, m, pre ++ [(i, (t, c))], by omega, ?_, ?_, ?_⟩, by omega⟩
      · rw [hr]; simp
      · rw [eout]; simp
      · rw [eps]; simp
  · rw [row_end b k i hge] at hr
    rw [hr]
    simp only [List.append_nil]
    exact ⟨eout, eps, by trivial⟩
theorem h111 : c_r01_Row.ok Tryd.prog GL 111 := con_ok (H := {}) (mkEnv_ok (gl := GL) (l := [(68, conSem c_r01_Take)]) (q := []) (d := []) _ tyOk (by kernel_rfl) ⟨h68.call, trivial⟩ trivial trivial) (by kernel_rfl) (by kernel_rfl) (Eq.mp e111 k111)

def t95 : Prop :=
  ∀ (x : List Int × Unit), Kd.wf (Kd.sl (Kd.int IntKind.u8)) x.fst ∧ True → lenB x.fst ≤ (1000000000 : Nat) → lenB x.fst ≤ (1000000000 : Nat) ∧ (∀ (y : List (Int × List Int) × List Int × Int
  × Int × Unit), Kd.wf (Kd.sl (Kd.pair (Kd.int IntKind.i64) (Kd.sl (Kd.int IntKind.u8)))) y.fst ∧ Kd.wf (Kd.sl (Kd.int IntKind.i64)) y.snd.fst ∧ Kd.wf (Kd.int IntKind.i64) y.snd.snd.fst ∧
  Kd.wf (Kd.int IntKind.i64) y.snd.snd.snd.fst ∧ True → y.fst = List.map (fun (x : Int × Int × List Int) => x.snd) (rowD x.fst).fst ∧ y.snd.fst = List.map (fun (x : Int × Int × List Int) =>
  x.fst) (rowD x.fst).fst ∧ (y.snd.snd.fst, y.snd.snd.snd.fst) = (rowD x.fst).snd → (decide (y.snd.snd.snd.fst ≠ (0 : Int)) = true → ([], y.snd.snd.fst, y.snd.snd.snd.fst) = allD x.fst) ∧
  (decide (y.snd.snd.snd.fst ≠ (0 : Int)) = false → (y.fst, y.snd.snd.fst, (0 : Int)) = allD x.fst)) ∧ True
theorem e95 : t95 = Con.vc c_r01_All GL (mkEnv ty [(111, conSem c_r01_Row)] [] [] [0, 2, 3, 4, 5, 7, 8, 17]) {} Tryd.f95.ntmps Tryd.f95.results.toList (bodyOf Tryd.f95) := by kernel_rfl
theorem k95 : t95 := by
  unfold t95
  rintro ⟨b, _⟩ hx hp
  have hp : b.length ≤ 1000000000 := hp
  try dsimp +instances only [dft_int, dft_sl, dft_str]
  simp only [true_and, and_true, eq_self_iff_true, implies_true, reduceCtorEq, false_implies, true_implies, decide_eq_true_eq, decide_eq_false_iff_not, beq_self_eq_true, Bool.not_eq_true', ne_eq, Decidable.not_not, List.nil_append, List.length_singleton, List.length_cons, List.length_nil, Nat.zero_add, Nat.add_zero, Nat.mul_one, and_self, beq_iff_eq, Bool.not_true, Bool.not_false, Bool.not_eq_false', Bool.cond_false_right, Bool.and_eq_true, imp_self, Bool.not_eq_true, Bool.cond_true_left, Bool.or_eq_true]
  refine ⟨hp, ?_⟩
  rintro ⟨l, ps, n, e, _⟩ _ ⟨h1, h2, h3⟩
  simp only at h1 h2 h3 ⊢
  refine ⟨fun he => ?_, fun he => ?_⟩
  · rw [allD, ← h3, if_pos he]
  · rw [allD, ← h3, if_neg (fun h => h he), h1]
theorem h95 : c_r01_All.ok Tryd.prog GL 95 := con_ok (H := {}) (mkEnv_ok (gl := GL) (l := [(111, conSem c_r01_Row)]) (q := []) (d := []) _ tyOk (by kernel_rfl) ⟨h111.call, trivial⟩ trivial trivial) (by kernel_rfl) (by kernel_rfl) (Eq.mp e95 k95)

end Go.Proofs.YtcaekpbmmbfeiaaDoor
end
section
/- Contracts. -/
namespace Go.Proofs.YtcaekpbmmbfeiaaDoor
open Go Go.Vc Go.Pl Go.Proofs
def c_oid_May : Con := { args := [.dat (.sl I64)], res := [.dat .bool], pre := fun _ => True, post := fun x y => y.1 = mayO x.1 }
def c_r03_May : Con := { args := [.dat (.sl I64)], res := [.dat .bool], pre := fun _ => True, post := fun x y => y.1 = mayO x.1 }
def c_oid_number : Con := { args := [.own 5 U8, .dat I64], res := [.own 5 U8], pre := fun x => lenI x.1 ≤ 1000 ∧ 0 ≤ x.2.1 ∧ x.2.1 ≤ 2147483647, post := fun x y => y.1 = x.1 ++ numO x.2.1 }
def c_r03_Number : Con := { args := [.dat I64], res := [.own 5 U8], pre := fun x => 0 ≤ x.1 ∧ x.1 ≤ 2147483647, post := fun x y => y.1 = numO x.1 }
def c_oid_Encode : Con := { args := [.dat (.sl I64)], res := [.own 5 U8, .dat I64], pre := fun _ => True, post := fun x y => (y.1, y.2.1) = EncO x.1 }
def c_r03_Encode : Con := { args := [.dat (.sl I64)], res := [.own 5 U8, .dat I64], pre := fun _ => True, post := fun x y => (y.1, y.2.1) = EncO x.1 }

end Go.Proofs.YtcaekpbmmbfeiaaDoor
end
section
/- Walks. -/
namespace Go.Proofs.YtcaekpbmmbfeiaaDoor
open Go Go.Vc Go.Pl Go.Proofs
set_option linter.unusedVariables false
set_option linter.unusedSimpArgs false
def t73 : Prop :=
  ∀ (x : List Int × Unit), Kd.wf (Kd.sl (Kd.int IntKind.i64)) x.fst ∧ True → True → (decide ((↑(List.length x.fst) : Int) < (2 : Int)) = false → True) ∧ (decide ((↑(List.length x.fst) : Int)
  < (2 : Int)) = false → (decide ((↑(List.length x.fst) : Int) < (2 : Int)) == false) = true ∧ True) ∧ (decide ((↑(List.length x.fst) : Int) < (2 : Int)) = false → (decide ((↑(List.length
  x.fst) : Int) < (2 : Int)) == false) = true ∧ True) ∧ (decide ((↑(List.length x.fst) : Int) < (2 : Int)) = false → (decide ((↑(List.length x.fst) : Int) < (2 : Int)) == false) = true) ∧
  ((bif decide ((↑(List.length x.fst) : Int) < (2 : Int)) then true else decide ((20 : Int) < (↑(List.length x.fst) : Int))) = true → false = mayO x.fst) ∧ ((bif decide ((↑(List.length x.fst)
  : Int) < (2 : Int)) then true else decide ((20 : Int) < (↑(List.length x.fst) : Int))) = false → ∃ (I : Int × Bool × Unit → Unit → Prop), ∃ (μ : Int × Bool × Unit → Unit → Nat), (Value.bool
  false = Value.bool false ∧ x.fst = x.fst ∧ I ((0 : Int), false, ()) ()) ∧ ∀ (y : Int × Bool × Unit) (z : Unit), Kd.wf (Kd.int IntKind.i64) y.fst ∧ Kd.wf Kd.bool y.snd.fst ∧ True → True → I
  y z → (decide (y.fst < (↑(List.length x.fst) : Int)) = true → ((0 : Int) ≤ y.fst ∧ y.fst < (↑(List.length x.fst) : Int)) ∧ (decide (List.getD x.fst (Int.toNat y.fst) (Kd.dft (Kd.int
  IntKind.i64)) < (0 : Int)) = false → True) ∧ (decide (List.getD x.fst (Int.toNat y.fst) (Kd.dft (Kd.int IntKind.i64)) < (0 : Int)) = false → True) ∧ (decide (List.getD x.fst (Int.toNat
  y.fst) (Kd.dft (Kd.int IntKind.i64)) < (0 : Int)) = false → (decide (List.getD x.fst (Int.toNat y.fst) (Kd.dft (Kd.int IntKind.i64)) < (0 : Int)) == false) = true ∧ (decide (List.getD x.fst
  (Int.toNat y.fst) (Kd.dft (Kd.int IntKind.i64)) < (0 : Int)) == false) = true ∧ ((0 : Int) ≤ y.fst ∧ y.fst < (↑(List.length x.fst) : Int)) ∧ True) ∧ (decide (List.getD x.fst (Int.toNat
  y.fst) (Kd.dft (Kd.int IntKind.i64)) < (0 : Int)) = false → (decide (List.getD x.fst (Int.toNat y.fst) (Kd.dft (Kd.int IntKind.i64)) < (0 : Int)) == false) = true ∧ True) ∧ (decide
  (List.getD x.fst (Int.toNat y.fst) (Kd.dft (Kd.int IntKind.i64)) < (0 : Int)) = false → (decide (List.getD x.fst (Int.toNat y.fst) (Kd.dft (Kd.int IntKind.i64)) < (0 : Int)) == false) =
  true ∧ True) ∧ (decide (List.getD x.fst (Int.toNat y.fst) (Kd.dft (Kd.int IntKind.i64)) < (0 : Int)) = false → (decide (List.getD x.fst (Int.toNat y.fst) (Kd.dft (Kd.int IntKind.i64)) < (0
  : Int)) == false) = true) ∧ ((bif decide (List.getD x.fst (Int.toNat y.fst) (Kd.dft (Kd.int IntKind.i64)) < (0 : Int)) then true else decide ((2147483647 : Int) < List.getD x.fst (Int.toNat
  y.fst) (Kd.dft (Kd.int IntKind.i64)))) = true → false = mayO x.fst) ∧ ((bif decide (List.getD x.fst (Int.toNat y.fst) (Kd.dft (Kd.int IntKind.i64)) < (0 : Int)) then true else decide
  ((2147483647 : Int) < List.getD x.fst (Int.toNat y.fst) (Kd.dft (Kd.int IntKind.i64)))) = false → Value.bool false = Value.bool false ∧ x.fst = x.fst ∧ I (IntKind.wrap IntKind.i64 (y.fst +
  (1 : Int)), y.snd.fst, ()) () ∧ μ (IntKind.wrap IntKind.i64 (y.fst + (1 : Int)), y.snd.fst, ()) () < μ y z)) ∧ (decide (y.fst < (↑(List.length x.fst) : Int)) = false → ((0 : Int) ≤ (0 :
  Int) ∧ (0 : Int) < (↑(List.length x.fst) : Int)) ∧ (decide ((2 : Int) < List.getD x.fst (0 : Nat) (Kd.dft (Kd.int IntKind.i64))) = true → false = mayO x.fst) ∧ (decide ((2 : Int) <
  List.getD x.fst (0 : Nat) (Kd.dft (Kd.int IntKind.i64))) = false → ((0 : Int) ≤ (0 : Int) ∧ (0 : Int) < (↑(List.length x.fst) : Int)) ∧ (decide (List.getD x.fst (0 : Nat) (Kd.dft (Kd.int
  IntKind.i64)) < (2 : Int)) = true → ((0 : Int) ≤ (1 : Int) ∧ (1 : Int) < (↑(List.length x.fst) : Int)) ∧ decide (List.getD x.fst (1 : Nat) (Kd.dft (Kd.int IntKind.i64)) ≤ (39 : Int)) = mayO
  x.fst) ∧ (decide (List.getD x.fst (0 : Nat) (Kd.dft (Kd.int IntKind.i64)) < (2 : Int)) = false → ((0 : Int) ≤ (1 : Int) ∧ (1 : Int) < (↑(List.length x.fst) : Int)) ∧ decide (List.getD x.fst
  (1 : Nat) (Kd.dft (Kd.int IntKind.i64)) ≤ (2147483567 : Int)) = mayO x.fst))))
theorem e73 : t73 = Con.vc c_r03_May GL (mkEnv ty [] [] [] [0, 2, 3, 11, 15, 29, 33, 37]) {} Tryd.f73.ntmps Tryd.f73.results.toList (bodyOf Tryd.f73) := by kernel_rfl
theorem k73 : t73 := by
  unfold t73
  rintro ⟨l, _⟩ hx hp
  try dsimp +instances only [dft_int, dft_sl, dft_str]
  simp only [true_and, and_true, eq_self_iff_true, implies_true, reduceCtorEq, false_implies, true_implies, decide_eq_true_eq, decide_eq_false_iff_not, beq_self_eq_true, Bool.not_eq_true', ne_eq, Decidable.not_not, List.nil_append, List.length_singleton, List.length_cons, List.length_nil, Nat.zero_add, Nat.add_zero, Nat.mul_one, and_self, beq_iff_eq, Bool.not_true, Bool.not_false, Bool.not_eq_false', Bool.cond_false_right, Bool.and_eq_true, imp_self, Bool.not_eq_true, Bool.cond_true_left, Bool.or_eq_true]
  refine ⟨fun h => (may_len h).symm, fun h => ?_⟩
  simp only [Bool.or_eq_false_iff, decide_eq_false_iff_not] at h
  refine ⟨fun y _ => 0 ≤ y.1 ∧ y.1 ≤ l.length ∧ ∀ j, j < y.1.toNat → 0 ≤ l.getD j 0 ∧ l.getD j 0 ≤ 2147483647, fun y _ => ((l.length : Int) - y.1).toNat, ⟨Int.le_refl 0, by simp only; omega, fun j hj => by simp at hj⟩, ?_⟩
  rintro ⟨i, b, _⟩ _ _ ⟨i0, i1, i2⟩
  simp only at i0 i1 i2 ⊢
  have hw1 : IntKind.wrap .i64 (i + 1) = i + 1 := wrapK _ (by omega) (by omega)
  rw [hw1]
  refine ⟨fun hlt => ⟨⟨i0, hlt⟩, fun hn => ⟨hn, hn, i0, hlt⟩, fun hb => (may_in (by omega) hb).symm, fun hg => ⟨⟨by omega, by omega, fun j hj => ?_⟩, by omega⟩⟩, fun hge => ?_⟩
  · simp only [Bool.or_eq_false_iff, decide_eq_false_iff_not] at hg
    by_cases hji : j < i.toNat
    · exact i2 j hji
    · rw [show j = i.toNat by omega]; omega
  · have hr := may_rest (l := l) (by omega) (by omega) (fun j hj => i2 j (by omega))
    have h0 := i2 0 (by omega)
    rw [hr]
    refine ⟨⟨by omega, by omega⟩, fun e => by rw [if_neg (by omega), if_neg (by omega)], fun e0 => ⟨⟨by omega, by omega⟩, fun e => ⟨⟨by omega, by omega⟩, by rw [if_pos (by omega)]; exact decide_eq_decide.2 (by omega)⟩, fun e1 => ⟨⟨by omega, by omega⟩, by rw [if_neg (by omega), if_pos (by omega)]⟩⟩⟩
theorem h73 : c_r03_May.ok Tryd.prog GL 73 := con_ok (H := {}) (mkEnv_ok (gl := GL) (l := []) (q := []) (d := []) _ tyOk (by kernel_rfl) trivial trivial trivial) (by kernel_rfl) (by kernel_rfl) (Eq.mp e73 k73)

def t74 : Prop :=
  ∀ (x : Int × Unit), Kd.wf (Kd.int IntKind.i64) x.fst ∧ True → (0 : Int) ≤ x.fst ∧ x.fst ≤ (2147483647 : Int) → (128 : Int) ≠ (0 : Int) ∧ (128 : Int) ≠ (0 : Int) ∧ ∃ (I : Int × Unit → List
  Int × Unit → Prop), ∃ (μ : Int × Unit → List Int × Unit → Nat), (Value.slice none (0 : Nat) (0 : Nat) = Value.slice none (0 : Nat) (0 : Nat) ∧ I (IntKind.wrap IntKind.i64 (Int.tdiv x.fst
  (128 : Int)), ()) ([IntKind.wrap IntKind.u8 (Int.tmod x.fst (128 : Int))], ())) ∧ ∀ (y : Int × Unit) (z : List Int × Unit), Kd.wf (Kd.int IntKind.i64) y.fst ∧ True → Kd.wf (Kd.sl (Kd.int
  IntKind.u8)) z.fst ∧ True → I y z → (decide ((0 : Int) < y.fst) = true → (128 : Int) ≠ (0 : Int) ∧ (0 : Nat) < (1 : Nat) ∧ (List.length [IntKind.wrap IntKind.u8 (IntKind.wrap IntKind.i64
  ((128 : Int) + Int.tmod y.fst (128 : Int)))] + List.length z.fst) * (1 : Nat) ≤ (140737488355328 : Nat) ∧ List.length [IntKind.wrap IntKind.u8 (IntKind.wrap IntKind.i64 ((128 : Int) +
  Int.tmod y.fst (128 : Int)))] + List.length z.fst ≤ (9223372036854775807 : Nat) ∧ (128 : Int) ≠ (0 : Int) ∧ Value.slice none (0 : Nat) (0 : Nat) = Value.slice none (0 : Nat) (0 : Nat) ∧ I
  (IntKind.wrap IntKind.i64 (Int.tdiv y.fst (128 : Int)), ()) ([IntKind.wrap IntKind.u8 (IntKind.wrap IntKind.i64 ((128 : Int) + Int.tmod y.fst (128 : Int)))] ++ z.fst, ()) ∧ μ (IntKind.wrap
  IntKind.i64 (Int.tdiv y.fst (128 : Int)), ()) ([IntKind.wrap IntKind.u8 (IntKind.wrap IntKind.i64 ((128 : Int) + Int.tmod y.fst (128 : Int)))] ++ z.fst, ()) < μ y z) ∧ (decide ((0 : Int) <
  y.fst) = false → z.fst = numO x.fst)
theorem e74 : t74 = Con.vc c_r03_Number GL (mkEnv ty [] [] [] [0, 2, 3, 11]) {} Tryd.f74.ntmps Tryd.f74.results.toList (bodyOf Tryd.f74) := by kernel_rfl
theorem k74 : t74 := by
  unfold t74
  rintro ⟨n, _⟩ hx hp
  obtain ⟨p1, p2⟩ := hp
  simp only at p1 p2
  have h4 := small4 p2
  try dsimp +instances only [dft_int, dft_sl, dft_str]
  simp only [true_and, and_true, eq_self_iff_true, implies_true, reduceCtorEq, false_implies, true_implies, decide_eq_true_eq, decide_eq_false_iff_not, beq_self_eq_true, Bool.not_eq_true', ne_eq, Decidable.not_not, List.nil_append, List.length_singleton, List.length_cons, List.length_nil, Nat.zero_add, Nat.add_zero, Nat.mul_one, and_self, beq_iff_eq, Bool.not_true, Bool.not_false, Bool.not_eq_false', Bool.cond_false_right, Bool.and_eq_true, imp_self, Bool.not_eq_true, Bool.cond_true_left, Bool.or_eq_true]
  have hd : ∀ m : Int, 0 ≤ m → m ≤ 2147483647 → IntKind.wrap .i64 (m.tdiv 128) = m / 128 := fun m h0 h1 => by
    rw [Int.tdiv_eq_ediv_of_nonneg h0, wrapK _ (by omega) (by omega)]
  have hm : ∀ m : Int, 0 ≤ m → m.tmod 128 = m % 128 := fun m h0 => Int.tmod_eq_emod_of_nonneg h0
  rw [hd n p1 p2, hm n p1]
  refine ⟨by decide, by decide, fun y z => ∃ j : Nat, j ≤ 4 ∧ y.1 = n / 128 ^ (j + 1) ∧ z.1 = hiD j n ++ [n % 128] ∧ (0 < j → 0 < n / 128 ^ j), fun y _ => y.1.toNat, ⟨0, by omega, by simp, by simp only [hiD, List.nil_append]; rw [wrap_u8]; congr 1; omega, fun h => absurd h (by omega)⟩, ?_⟩
  rintro ⟨y, _⟩ ⟨z, _⟩ _ _ ⟨j, j4, ey, ez, hj⟩
  simp only at ey ez ⊢
  subst ez
  have e1 := pow_div n j j4
  have hb : 0 ≤ y ∧ y ≤ 2147483647 := by
    have : j = 0 ∨ j = 1 ∨ j = 2 ∨ j = 3 ∨ j = 4 := by omega
    rcases this with rfl | rfl | rfl | rfl | rfl <;> simp only [Nat.reduceAdd, Int.reducePow] at ey <;> omega
  refine ⟨fun hlt => ?_, fun hge => ?_⟩
  · have : j < 4 := by
      rcases Nat.lt_or_ge j 4 with h | h
      · exact h
      · rw [show j = 4 by omega] at e1 ey; omega
    rw [hd y hb.1 hb.2, hm y hb.1, wrapK (128 + y % 128) (by omega) (by omega)]
    have hl : (hiD j n ++ [n % 128]).length ≤ 5 := by rw [List.length_append, hi_length]; simp; omega
    refine ⟨by decide, by decide, by omega, by omega, by decide, ⟨j + 1, by omega, ?_, ?_, fun _ => by rw [← ey]; exact hlt⟩, by omega⟩
    · rw [pow_div n (j + 1) (by omega), ← ey]
    · rw [hiD, ← ey, wrap_u8]
      simp only [List.cons_append, List.nil_append]
      congr 1
      omega
  · have hN : hiN n = j := hi_is p1 j4 (by omega) hj
    rw [numO, hN]
theorem h74 : c_r03_Number.ok Tryd.prog GL 74 := con_ok (H := {}) (mkEnv_ok (gl := GL) (l := []) (q := []) (d := []) _ tyOk (by kernel_rfl) trivial trivial trivial) (by kernel_rfl) (by kernel_rfl) (Eq.mp e74 k74)

def t50 : Prop :=
  ∀ (x : List Int × Unit), Kd.wf (Kd.sl (Kd.int IntKind.i64)) x.fst ∧ True → True → True ∧ (∀ (y : Bool × Unit), Kd.wf Kd.bool y.fst ∧ True → y.fst = mayO x.fst → ((!y.fst) = true → ([], (2 :
  Int)) = EncO x.fst) ∧ ((!y.fst) = false → ((0 : Int) ≤ (0 : Int) ∧ (0 : Int) < (↑(List.length x.fst) : Int)) ∧ ((0 : Int) ≤ (1 : Int) ∧ (1 : Int) < (↑(List.length x.fst) : Int)) ∧ ((0 :
  Int) ≤ IntKind.wrap IntKind.i64 (IntKind.wrap IntKind.i64 ((40 : Int) * List.getD x.fst (0 : Nat) (Kd.dft (Kd.int IntKind.i64))) + List.getD x.fst (1 : Nat) (Kd.dft (Kd.int IntKind.i64))) ∧
  IntKind.wrap IntKind.i64 (IntKind.wrap IntKind.i64 ((40 : Int) * List.getD x.fst (0 : Nat) (Kd.dft (Kd.int IntKind.i64))) + List.getD x.fst (1 : Nat) (Kd.dft (Kd.int IntKind.i64))) ≤
  (2147483647 : Int)) ∧ (∀ (y : List Int × Unit), Kd.wf (Kd.sl (Kd.int IntKind.u8)) y.fst ∧ True → y.fst = numO (IntKind.wrap IntKind.i64 (IntKind.wrap IntKind.i64 ((40 : Int) * List.getD
  x.fst (0 : Nat) (Kd.dft (Kd.int IntKind.i64))) + List.getD x.fst (1 : Nat) (Kd.dft (Kd.int IntKind.i64)))) → ∃ (I : Int × Unit → List Int × Unit → Prop), ∃ (μ : Int × Unit → List Int × Unit
  → Nat), (Value.bool false = Value.bool false ∧ (0 : Int) = (0 : Int) ∧ Value.slice none (0 : Nat) (0 : Nat) = Value.slice none (0 : Nat) (0 : Nat) ∧ x.fst = x.fst ∧ I ((2 : Int), ())
  (y.fst, ())) ∧ ∀ (y : Int × Unit) (z : List Int × Unit), Kd.wf (Kd.int IntKind.i64) y.fst ∧ True → Kd.wf (Kd.sl (Kd.int IntKind.u8)) z.fst ∧ True → I y z → (decide (y.fst < (↑(List.length
  x.fst) : Int)) = true → ((0 : Int) ≤ y.fst ∧ y.fst < (↑(List.length x.fst) : Int)) ∧ ((0 : Int) ≤ List.getD x.fst (Int.toNat y.fst) (Kd.dft (Kd.int IntKind.i64)) ∧ List.getD x.fst
  (Int.toNat y.fst) (Kd.dft (Kd.int IntKind.i64)) ≤ (2147483647 : Int)) ∧ (∀ (y_1 : List Int × Unit), Kd.wf (Kd.sl (Kd.int IntKind.u8)) y_1.fst ∧ True → y_1.fst = numO (List.getD x.fst
  (Int.toNat y.fst) (Kd.dft (Kd.int IntKind.i64))) → (0 : Nat) < (1 : Nat) ∧ (List.length z.fst + List.length y_1.fst) * (1 : Nat) ≤ (140737488355328 : Nat) ∧ List.length z.fst + List.length
  y_1.fst ≤ (9223372036854775807 : Nat) ∧ Value.bool false = Value.bool false ∧ (0 : Int) = (0 : Int) ∧ Value.slice none (0 : Nat) (0 : Nat) = Value.slice none (0 : Nat) (0 : Nat) ∧ x.fst =
  x.fst ∧ I (IntKind.wrap IntKind.i64 (y.fst + (1 : Int)), ()) (z.fst ++ y_1.fst, ()) ∧ μ (IntKind.wrap IntKind.i64 (y.fst + (1 : Int)), ()) (z.fst ++ y_1.fst, ()) < μ y z) ∧ True) ∧ (decide
  (y.fst < (↑(List.length x.fst) : Int)) = false → (z.fst, (0 : Int)) = EncO x.fst)) ∧ True)) ∧ True
theorem e50 : t50 = Con.vc c_r03_Encode GL (mkEnv ty [(73, conSem c_r03_May), (74, conSem c_r03_Number)] [] [] [0, 2, 3, 4, 5, 8, 21]) {} Tryd.f50.ntmps Tryd.f50.results.toList (bodyOf Tryd.f50) := by kernel_rfl
theorem k50 : t50 := by
  unfold t50
  rintro ⟨l, _⟩ hx hp
  try dsimp +instances only [dft_int, dft_sl, dft_str]
  simp only [true_and, and_true, eq_self_iff_true, implies_true, reduceCtorEq, false_implies, true_implies, decide_eq_true_eq, decide_eq_false_iff_not, beq_self_eq_true, Bool.not_eq_true', ne_eq, Decidable.not_not, List.nil_append, List.length_singleton, List.length_cons, List.length_nil, Nat.zero_add, Nat.add_zero, Nat.mul_one, and_self, beq_iff_eq, Bool.not_true, Bool.not_false, Bool.not_eq_false', Bool.cond_false_right, Bool.and_eq_true, imp_self, Bool.not_eq_true, Bool.cond_true_left, Bool.or_eq_true]
  simp only [all_bool]
  refine ⟨fun h => by rw [EncO, h]; rfl, fun h => ?_⟩
  obtain ⟨h1, h2, h3, h4, h5⟩ := may_args h
  have hg : ∀ i, i < l.length → 0 ≤ l.getD i 0 ∧ l.getD i 0 ≤ 2147483647 := fun i hi => h3 _ (by
    rw [List.getD_eq_getElem?_getD, List.getElem?_eq_getElem hi]
    exact List.getElem_mem _)
  have g0 := hg 0 (by omega)
  have g1 := hg 1 (by omega)
  rw [wrapK (40 * l.getD 0 0) (by omega) (by omega), wrapK (40 * l.getD 0 0 + l.getD 1 0) (by omega) (by omega)]
  refine ⟨⟨by omega, by omega⟩, ⟨by omega, by omega⟩, ⟨h4, h5⟩, ?_⟩
  rintro ⟨a, _⟩ _ ea
  simp only at ea ⊢
  refine ⟨fun y z => 2 ≤ y.1 ∧ y.1 ≤ l.length ∧ z.1 = encP l y.1.toNat, fun y _ => ((l.length : Int) - y.1).toNat, ⟨by simp, by simp only; omega, by rw [ea]; exact (encP_two l).symm⟩, ?_⟩
  rintro ⟨i, _⟩ ⟨z, _⟩ _ _ ⟨i0, i1, ez⟩
  simp only at i0 i1 ez ⊢
  have hw1 : IntKind.wrap .i64 (i + 1) = i + 1 := wrapK _ (by omega) (by omega)
  rw [hw1]
  refine ⟨fun hlt => ⟨⟨by omega, hlt⟩, hg i.toNat (by omega), ?_⟩, fun hge => ?_⟩
  · rintro ⟨c, _⟩ _ ec
    simp only at ec ⊢
    have l1 := encP_len l i.toNat
    have l2 := num_length (l.getD i.toNat 0)
    rw [← ez] at l1
    rw [← ec] at l2
    refine ⟨by decide, by omega, by omega, ⟨by omega, by omega, ?_⟩, by omega⟩
    rw [show (i + 1).toNat = i.toNat + 1 by omega, encP_step (by omega) (by omega), ez, ec]
  · rw [EncO, h, if_pos rfl, ez, encP_all (by omega)]
theorem h50 : c_r03_Encode.ok Tryd.prog GL 50 := con_ok (H := {}) (mkEnv_ok (gl := GL) (l := [(73, conSem c_r03_May), (74, conSem c_r03_Number)]) (q := []) (d := []) _ tyOk (by kernel_rfl) ⟨h73.call, h74.call, trivial⟩ trivial trivial) (by kernel_rfl) (by kernel_rfl) (Eq.mp e50 k50)

end Go.Proofs.YtcaekpbmmbfeiaaDoor
end
