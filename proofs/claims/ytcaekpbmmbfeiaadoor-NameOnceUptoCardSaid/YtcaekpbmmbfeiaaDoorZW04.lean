/- Texts of a verified walk, led together: DerA, DerW, DerrA, DerrW, OidA, OidW. -/
import Derived.Test.YtcaekpbmmbfeiaaDoorZW03
import Derived.Test.YtcaekpbmmbfeiaaDoorZV09
import Derived.Test.YtcaekpbmmbfeiaaDoorZV08
set_option linter.unusedVariables false
set_option linter.unusedSimpArgs false
section
/- Contracts. -/
namespace Go.Proofs.YtcaekpbmmbfeiaaDoor
open Go Go.Vc Go.Pl Go.Proofs
def c_der_isTag : Con := { args := [.dat I64], res := [.dat .bool], pre := fun _ => True, post := fun x y => y.1 = isTagD x.1 }
def c_der_length : Con := { args := [.dat I64], res := [.own 5 U8], pre := fun x => 0 ≤ x.1 ∧ x.1 ≤ 16777215, post := fun x y => y.1 = lngD x.1 }
def c_slices_Clone_byte_byte : Con := { args := [.dat BY], res := [.dat BY], pre := fun x => lenB x.1 ≤ 1000000000, post := fun x y => y.1 = x.1 }
def c_slices_Concat_byte_byte : Con := { args := [.dat (.sl BY)], res := [.own 5 U8], pre := fun x => lenF x.1 ≤ 1000000000, post := fun x y => y.1 = x.1.flatten }
def c_der_Put : Con := { args := [.dat BY, .dat I64, .dat (.sl BY)], res := [.own 5 U8, .dat I64], pre := fun x => lenB x.1 ≤ 900000000, post := fun x y => (y.1, y.2.1) = PutD x.1 x.2.1 x.2.2.1.flatten }
def c_der_head : Con := { args := [.dat BY], res := [.dat I64, .dat I64, .dat I64, .dat I64], pre := fun x => lenB x.1 ≤ 1000000000, post := fun x y => (y.1, y.2.1, y.2.2.1, y.2.2.2.1) = headK x.1 }
def c_der_Take : Con := { args := [.dat BY], res := [.dat ET, .dat I64, .dat I64], pre := fun x => lenB x.1 ≤ 1000000000, post := fun x y => (y.1, y.2.1, y.2.2.1) = takeD x.1 }
def c_der_One : Con := { args := [.dat BY], res := [.dat ET, .dat I64], pre := fun x => lenB x.1 ≤ 1000000000, post := fun x y => (y.1, y.2.1) = oneD x.1 }
def c_der_Size : Con := { args := [.dat I64], res := [.dat I64], pre := fun _ => True, post := fun x y => y.1 = sizeD x.1 }
def c_der_All : Con := { args := [.dat BY], res := [.own 68 ET, .dat I64, .dat I64], pre := fun x => lenB x.1 ≤ 1000000000, post := fun x y => (y.1, y.2.1, y.2.2.1) = allD x.1 }

end Go.Proofs.YtcaekpbmmbfeiaaDoor
end
section
/- Walks. -/
namespace Go.Proofs.YtcaekpbmmbfeiaaDoor
open Go Go.Vc Go.Pl Go.Proofs
set_option linter.unusedVariables false
set_option linter.unusedSimpArgs false
def t96 : Prop :=
  ∀ (x : Int × Unit), Kd.wf (Kd.int IntKind.i64) x.fst ∧ True → True → (decide ((0 : Int) ≤ x.fst) = true → True) ∧ (decide ((0 : Int) ≤ x.fst) = true → (decide ((0 : Int) ≤ x.fst) == true) =
  true ∧ True) ∧ (decide ((0 : Int) ≤ x.fst) = true → (decide ((0 : Int) ≤ x.fst) == true) = true) ∧ ((bif decide ((0 : Int) ≤ x.fst) then decide (x.fst ≤ (255 : Int)) else false) = true →
  True) ∧ ((bif decide ((0 : Int) ≤ x.fst) then decide (x.fst ≤ (255 : Int)) else false) = true → ((bif decide ((0 : Int) ≤ x.fst) then decide (x.fst ≤ (255 : Int)) else false) == true) =
  true ∧ True) ∧ ((bif decide ((0 : Int) ≤ x.fst) then decide (x.fst ≤ (255 : Int)) else false) = true → ((bif decide ((0 : Int) ≤ x.fst) then decide (x.fst ≤ (255 : Int)) else false) ==
  true) = true ∧ True) ∧ ((bif decide ((0 : Int) ≤ x.fst) then decide (x.fst ≤ (255 : Int)) else false) = true → ((bif decide ((0 : Int) ≤ x.fst) then decide (x.fst ≤ (255 : Int)) else false)
  == true) = true) ∧ (bif bif decide ((0 : Int) ≤ x.fst) then decide (x.fst ≤ (255 : Int)) else false then decide (IntKind.wrap IntKind.i64 (↑(BitVec.toNat (BitVec.ofInt (64 : Nat) x.fst &&&
  BitVec.ofInt (64 : Nat) (31 : Int))) : Int) ≠ (31 : Int)) else false) = isTagD x.fst
theorem e96 : t96 = Con.vc c_der_isTag GL (mkEnv ty [] [] [] [0, 2]) {} Tryd.f96.ntmps Tryd.f96.results.toList (bodyOf Tryd.f96) := by kernel_rfl
theorem k96 : t96 := by
  unfold t96
  rintro ⟨t, _⟩ hx hp
  try dsimp +instances only [dft_int, dft_sl, dft_str]
  simp only [true_and, and_true, eq_self_iff_true, implies_true, reduceCtorEq, false_implies, true_implies, decide_eq_true_eq, decide_eq_false_iff_not, beq_self_eq_true, Bool.not_eq_true', ne_eq, Decidable.not_not, List.nil_append, List.length_singleton, List.length_cons, List.length_nil, Nat.zero_add, Nat.add_zero, Nat.mul_one, and_self, beq_iff_eq, Bool.not_true, Bool.not_false, Bool.not_eq_false', Bool.cond_false_right, Bool.and_eq_true, imp_self, Bool.not_eq_true, Bool.cond_true_left, Bool.or_eq_true]
  exact isTag_eq t
theorem h96 : c_der_isTag.ok Tryd.prog GL 96 := con_ok (H := {}) (mkEnv_ok (gl := GL) (l := []) (q := []) (d := []) _ tyOk (by kernel_rfl) trivial trivial trivial) (by kernel_rfl) (by kernel_rfl) (Eq.mp e96 k96)

def t89 : Prop :=
  ∀ (x : Int × Unit), Kd.wf (Kd.int IntKind.i64) x.fst ∧ True → (0 : Int) ≤ x.fst ∧ x.fst ≤ (16777215 : Int) → (decide (x.fst < (128 : Int)) = true → [IntKind.wrap IntKind.u8 x.fst] = lngD
  x.fst) ∧ (decide (x.fst < (128 : Int)) = false → (decide (x.fst < (256 : Int)) = true → [(129 : Int), IntKind.wrap IntKind.u8 x.fst] = lngD x.fst) ∧ (decide (x.fst < (256 : Int)) = false →
  (decide (x.fst < (65536 : Int)) = true → (0 : Int) ≤ (8 : Int) ∧ [(130 : Int), IntKind.wrap IntKind.u8 (Int.fdiv x.fst ((2 : Int) ^ (8 : Nat))), IntKind.wrap IntKind.u8 x.fst] = lngD x.fst)
  ∧ (decide (x.fst < (65536 : Int)) = false → (0 : Int) ≤ (16 : Int) ∧ (0 : Int) ≤ (8 : Int) ∧ [(131 : Int), IntKind.wrap IntKind.u8 (Int.fdiv x.fst ((2 : Int) ^ (16 : Nat))), IntKind.wrap
  IntKind.u8 (Int.fdiv x.fst ((2 : Int) ^ (8 : Nat))), IntKind.wrap IntKind.u8 x.fst] = lngD x.fst)))
theorem e89 : t89 = Con.vc c_der_length GL (mkEnv ty [] [] [] [0, 2, 3, 9, 15]) {} Tryd.f89.ntmps Tryd.f89.results.toList (bodyOf Tryd.f89) := by kernel_rfl
theorem k89 : t89 := by
  unfold t89
  rintro ⟨n, _⟩ hx hp
  obtain ⟨h0, h1⟩ := hp
  simp only at h0 h1
  try dsimp +instances only [dft_int, dft_sl, dft_str]
  simp only [true_and, and_true, eq_self_iff_true, implies_true, reduceCtorEq, false_implies, true_implies, decide_eq_true_eq, decide_eq_false_iff_not, beq_self_eq_true, Bool.not_eq_true', ne_eq, Decidable.not_not, List.nil_append, List.length_singleton, List.length_cons, List.length_nil, Nat.zero_add, Nat.add_zero, Nat.mul_one, and_self, beq_iff_eq, Bool.not_true, Bool.not_false, Bool.not_eq_false', Bool.cond_false_right, Bool.and_eq_true, imp_self, Bool.not_eq_true, Bool.cond_true_left, Bool.or_eq_true]
  have e8 := (fdiv_pow h0).1
  have e16 := (fdiv_pow h0).2
  rw [e8, e16, wrap_u8m, wrap_u8m, wrap_u8m]
  refine ⟨fun h => ?_, fun h => ⟨fun h2 => ?_, fun h2 => ⟨fun h3 => ⟨by decide, ?_⟩, fun h3 => ⟨by decide, by decide, ?_⟩⟩⟩⟩
  · rw [lngD, if_pos h, show n % 256 = n by omega]
  · rw [lngD, if_neg h, if_pos h2, show n % 256 = n by omega]
  · rw [lngD, if_neg h, if_neg h2, if_pos h3, show n / 256 % 256 = n / 256 by omega]
  · rw [lngD, if_neg h, if_neg h2, if_neg h3, show n / 65536 % 256 = n / 65536 by omega]
theorem h89 : c_der_length.ok Tryd.prog GL 89 := con_ok (H := {}) (mkEnv_ok (gl := GL) (l := []) (q := []) (d := []) _ tyOk (by kernel_rfl) trivial trivial trivial) (by kernel_rfl) (by kernel_rfl) (Eq.mp e89 k89)

def t87 : Prop :=
  ∀ (x : List Int × Unit), Kd.wf (Kd.sl (Kd.int IntKind.u8)) x.fst ∧ True → lenB x.fst ≤ (1000000000 : Nat) → ∀ (b : Bool), (b = true → x.fst = []) → (b = true → [] = x.fst) ∧ (b = false → (0
  : Nat) < (1 : Nat) ∧ ((0 : Nat) + List.length x.fst) * (1 : Nat) ≤ (140737488355328 : Nat) ∧ (0 : Nat) + List.length x.fst ≤ (9223372036854775807 : Nat) ∧ [] ++ x.fst = x.fst)
theorem e87 : t87 = Con.vc c_slices_Clone_byte_byte GL (mkEnv ty [] [] [] [0, 2, 4]) {} Tryd.f87.ntmps Tryd.f87.results.toList (bodyOf Tryd.f87) := by kernel_rfl
theorem k87 : t87 := by
  unfold t87
  rintro ⟨l, _⟩ hx hp
  have hp : l.length ≤ 1000000000 := hp
  try dsimp +instances only [dft_int, dft_sl, dft_str]
  simp only [true_and, and_true, eq_self_iff_true, implies_true, reduceCtorEq, false_implies, true_implies, decide_eq_true_eq, decide_eq_false_iff_not, beq_self_eq_true, Bool.not_eq_true', ne_eq, Decidable.not_not, List.nil_append, List.length_singleton, List.length_cons, List.length_nil, Nat.zero_add, Nat.add_zero, Nat.mul_one, and_self, beq_iff_eq, Bool.not_true, Bool.not_false, Bool.not_eq_false', Bool.cond_false_right, Bool.and_eq_true, imp_self, Bool.not_eq_true, Bool.cond_true_left, Bool.or_eq_true]
  intro b hb
  exact ⟨fun h => (hb h).symm, fun _ => ⟨by decide, by omega, by omega⟩⟩
theorem h87 : c_slices_Clone_byte_byte.ok Tryd.prog GL 87 := con_ok (H := {}) (mkEnv_ok (gl := GL) (l := []) (q := []) (d := []) _ tyOk (by kernel_rfl) trivial trivial trivial) (by kernel_rfl) (by kernel_rfl) (Eq.mp e87 k87)

noncomputable def i112 : CallSem := cutSem <| vcFn (mkEnv ty [] [] [] [0, 1, 4, 6, 16]) {} Tryd.f112.ntmps Tryd.f112.results.toList (bodyOf Tryd.f112)
theorem i112_ok : CallOk Tryd.prog GL 112 i112 := cut_ok <| inl_ok {} (mkEnv_ok (gl := GL) (l := []) (q := []) (d := []) _ tyOk (by kernel_rfl) trivial trivial trivial) (by kernel_rfl) (by kernel_rfl)

def t97 : Prop :=
  ∀ (x : List (List Int) × Unit), Kd.wf (Kd.sl (Kd.sl (Kd.int IntKind.u8))) x.fst ∧ True → lenF x.fst ≤ (1000000000 : Nat) → ∃ (I : Int × Int × Unit → Unit → Prop), ∃ (μ : Int × Int × Unit →
  Unit → Nat), ((↑(List.length x.fst) : Int) = (↑(List.length x.fst) : Int) ∧ x.fst = x.fst ∧ Value.slice none (0 : Nat) (0 : Nat) = Value.slice none (0 : Nat) (0 : Nat) ∧ x.fst = x.fst ∧ I
  ((0 : Int), (0 : Int), ()) ()) ∧ ∀ (y : Int × Int × Unit) (z : Unit), Kd.wf (Kd.int IntKind.i64) y.fst ∧ Kd.wf (Kd.int IntKind.i64) y.snd.fst ∧ True → True → I y z → (decide (y.fst <
  (↑(List.length x.fst) : Int)) = true → ((0 : Int) ≤ y.fst ∧ y.fst < (↑(List.length x.fst) : Int)) ∧ (decide (IntKind.wrap IntKind.i64 (y.snd.fst + (↑(List.length (List.getD x.fst (Int.toNat
  y.fst) (Kd.dft (Kd.sl (Kd.int IntKind.u8))))) : Int)) < (0 : Int)) = true → False) ∧ (decide (IntKind.wrap IntKind.i64 (y.snd.fst + (↑(List.length (List.getD x.fst (Int.toNat y.fst) (Kd.dft
  (Kd.sl (Kd.int IntKind.u8))))) : Int)) < (0 : Int)) = false → (↑(List.length x.fst) : Int) = (↑(List.length x.fst) : Int) ∧ x.fst = x.fst ∧ Value.slice none (0 : Nat) (0 : Nat) =
  Value.slice none (0 : Nat) (0 : Nat) ∧ x.fst = x.fst ∧ I (IntKind.wrap IntKind.i64 (y.fst + (1 : Int)), IntKind.wrap IntKind.i64 (y.snd.fst + (↑(List.length (List.getD x.fst (Int.toNat
  y.fst) (Kd.dft (Kd.sl (Kd.int IntKind.u8))))) : Int)), ()) () ∧ μ (IntKind.wrap IntKind.i64 (y.fst + (1 : Int)), IntKind.wrap IntKind.i64 (y.snd.fst + (↑(List.length (List.getD x.fst
  (Int.toNat y.fst) (Kd.dft (Kd.sl (Kd.int IntKind.u8))))) : Int)), ()) () < μ y z)) ∧ (decide (y.fst < (↑(List.length x.fst) : Int)) = false → (decide (y.snd.fst < (0 : Int)) = true → False)
  ∧ (decide (y.snd.fst < (0 : Int)) = false → (decide ((0 : Int) < IntKind.wrap IntKind.i64 (y.snd.fst - IntKind.wrap IntKind.i64 ((0 : Int) - (0 : Int)))) = true → ((0 : Int) ≤ (0 : Int) ∧
  (0 : Int) ≤ (↑(0 : Nat) : Int)) ∧ (0 : Int) < IntKind.wrap IntKind.i64 (y.snd.fst - IntKind.wrap IntKind.i64 ((0 : Int) - (0 : Int))) ∧ IntKind.wrap IntKind.i64 (y.snd.fst - IntKind.wrap
  IntKind.i64 ((0 : Int) - (0 : Int))) ≤ (1000000000 : Int) ∧ ((0 : Int) ≤ (0 : Int) ∧ (0 : Int) ≤ (↑(List.length (List.replicate (Int.toNat (IntKind.wrap IntKind.i64 (y.snd.fst -
  IntKind.wrap IntKind.i64 ((0 : Int) - (0 : Int))))) (Kd.dft (Kd.int IntKind.u8)))) : Int)) ∧ (0 : Nat) = (0 : Nat) ∧ ∃ (I : Int × Unit → List Int × Unit → Prop), ∃ (μ : Int × Unit → List
  Int × Unit → Nat), ((↑(List.length x.fst) : Int) = (↑(List.length x.fst) : Int) ∧ x.fst = x.fst ∧ Value.bool false = Value.bool false ∧ y.fst = y.fst ∧ (↑(List.length x.fst) : Int) =
  (↑(List.length x.fst) : Int) ∧ x.fst = x.fst ∧ y.snd.fst = y.snd.fst ∧ Value.slice none (0 : Nat) (0 : Nat) = Value.slice none (0 : Nat) (0 : Nat) ∧ x.fst = x.fst ∧ I ((0 : Int), ())
  (List.take ((0 : Nat) - (0 : Nat)) (List.replicate (Int.toNat (IntKind.wrap IntKind.i64 (y.snd.fst - IntKind.wrap IntKind.i64 ((0 : Int) - (0 : Int))))) (Kd.dft (Kd.int IntKind.u8))), ()))
  ∧ ∀ (y_1 : Int × Unit) (z : List Int × Unit), Kd.wf (Kd.int IntKind.i64) y_1.fst ∧ True → Kd.wf (Kd.sl (Kd.int IntKind.u8)) z.fst ∧ True → I y_1 z → (decide (y_1.fst < (↑(List.length x.fst)
  : Int)) = true → ((0 : Int) ≤ y_1.fst ∧ y_1.fst < (↑(List.length x.fst) : Int)) ∧ (0 : Nat) < (1 : Nat) ∧ (List.length z.fst + List.length (List.getD x.fst (Int.toNat y_1.fst) (Kd.dft
  (Kd.sl (Kd.int IntKind.u8))))) * (1 : Nat) ≤ (140737488355328 : Nat) ∧ List.length z.fst + List.length (List.getD x.fst (Int.toNat y_1.fst) (Kd.dft (Kd.sl (Kd.int IntKind.u8)))) ≤
  (9223372036854775807 : Nat) ∧ (↑(List.length x.fst) : Int) = (↑(List.length x.fst) : Int) ∧ x.fst = x.fst ∧ Value.bool false = Value.bool false ∧ y.fst = y.fst ∧ (↑(List.length x.fst) :
  Int) = (↑(List.length x.fst) : Int) ∧ x.fst = x.fst ∧ y.snd.fst = y.snd.fst ∧ Value.slice none (0 : Nat) (0 : Nat) = Value.slice none (0 : Nat) (0 : Nat) ∧ x.fst = x.fst ∧ I (IntKind.wrap
  IntKind.i64 (y_1.fst + (1 : Int)), ()) (z.fst ++ List.getD x.fst (Int.toNat y_1.fst) (Kd.dft (Kd.sl (Kd.int IntKind.u8))), ()) ∧ μ (IntKind.wrap IntKind.i64 (y_1.fst + (1 : Int)), ())
  (z.fst ++ List.getD x.fst (Int.toNat y_1.fst) (Kd.dft (Kd.sl (Kd.int IntKind.u8))), ()) < μ y_1 z) ∧ (decide (y_1.fst < (↑(List.length x.fst) : Int)) = false → z.fst = List.flatten x.fst))
  ∧ (decide ((0 : Int) < IntKind.wrap IntKind.i64 (y.snd.fst - IntKind.wrap IntKind.i64 ((0 : Int) - (0 : Int)))) = false → ∃ (I : Int × Unit → List Int × Unit → Prop), ∃ (μ : Int × Unit →
  List Int × Unit → Nat), ((↑(List.length x.fst) : Int) = (↑(List.length x.fst) : Int) ∧ x.fst = x.fst ∧ Value.bool false = Value.bool false ∧ y.fst = y.fst ∧ (↑(List.length x.fst) : Int) =
  (↑(List.length x.fst) : Int) ∧ x.fst = x.fst ∧ y.snd.fst = y.snd.fst ∧ Value.slice none (0 : Nat) (0 : Nat) = Value.slice none (0 : Nat) (0 : Nat) ∧ x.fst = x.fst ∧ I ((0 : Int), ()) ([],
  ())) ∧ ∀ (y_1 : Int × Unit) (z : List Int × Unit), Kd.wf (Kd.int IntKind.i64) y_1.fst ∧ True → Kd.wf (Kd.sl (Kd.int IntKind.u8)) z.fst ∧ True → I y_1 z → (decide (y_1.fst < (↑(List.length
  x.fst) : Int)) = true → ((0 : Int) ≤ y_1.fst ∧ y_1.fst < (↑(List.length x.fst) : Int)) ∧ (0 : Nat) < (1 : Nat) ∧ (List.length z.fst + List.length (List.getD x.fst (Int.toNat y_1.fst)
  (Kd.dft (Kd.sl (Kd.int IntKind.u8))))) * (1 : Nat) ≤ (140737488355328 : Nat) ∧ List.length z.fst + List.length (List.getD x.fst (Int.toNat y_1.fst) (Kd.dft (Kd.sl (Kd.int IntKind.u8)))) ≤
  (9223372036854775807 : Nat) ∧ (↑(List.length x.fst) : Int) = (↑(List.length x.fst) : Int) ∧ x.fst = x.fst ∧ Value.bool false = Value.bool false ∧ y.fst = y.fst ∧ (↑(List.length x.fst) :
  Int) = (↑(List.length x.fst) : Int) ∧ x.fst = x.fst ∧ y.snd.fst = y.snd.fst ∧ Value.slice none (0 : Nat) (0 : Nat) = Value.slice none (0 : Nat) (0 : Nat) ∧ x.fst = x.fst ∧ I (IntKind.wrap
  IntKind.i64 (y_1.fst + (1 : Int)), ()) (z.fst ++ List.getD x.fst (Int.toNat y_1.fst) (Kd.dft (Kd.sl (Kd.int IntKind.u8))), ()) ∧ μ (IntKind.wrap IntKind.i64 (y_1.fst + (1 : Int)), ())
  (z.fst ++ List.getD x.fst (Int.toNat y_1.fst) (Kd.dft (Kd.sl (Kd.int IntKind.u8))), ()) < μ y_1 z) ∧ (decide (y_1.fst < (↑(List.length x.fst) : Int)) = false → z.fst = List.flatten
  x.fst))))
theorem e97 : t97 = Con.vc c_slices_Concat_byte_byte GL (mkEnv ty [(112, i112)] [] [] [0, 2, 3, 5, 6, 8, 9, 10, 11, 12, 20, 25, 26, 27, 28]) {} Tryd.f97.ntmps Tryd.f97.results.toList (bodyOf Tryd.f97) := by kernel_rfl
theorem k97 : t97 := by
  unfold t97
  rintro ⟨xs, _⟩ hx hp
  have hp : xs.flatten.length ≤ 1000000000 := hp
  have hl : xs.length ≤ 9223372036854775807 := hx.1.1
  try dsimp +instances only [dft_int, dft_sl, dft_str]
  simp only [true_and, and_true, eq_self_iff_true, implies_true, reduceCtorEq, false_implies, true_implies, decide_eq_true_eq, decide_eq_false_iff_not, beq_self_eq_true, Bool.not_eq_true', ne_eq, Decidable.not_not, List.nil_append, List.length_singleton, List.length_cons, List.length_nil, Nat.zero_add, Nat.add_zero, Nat.mul_one, and_self, beq_iff_eq, Bool.not_true, Bool.not_false, Bool.not_eq_false', Bool.cond_false_right, Bool.and_eq_true, imp_self, Bool.not_eq_true, Bool.cond_true_left, Bool.or_eq_true]
  refine ⟨fun y z => 0 ≤ y.1 ∧ y.1 ≤ xs.length ∧ y.2.1 = ((xs.take y.1.toNat).flatten.length : Int), fun y z => xs.length - y.1.toNat, ⟨Int.le_refl 0, by simp only; omega, by simp⟩, ?_⟩
  rintro ⟨i, s, _⟩ z hy ⟨h0, h1, h2⟩
  simp only at h0 h1 h2 ⊢
  have hs := flat_bound xs i.toNat
  refine ⟨fun hlt => ?_, fun hge => ⟨fun h => by omega, fun _ => ⟨fun hpos => ?_, fun _ => flat_loop xs hl hp [] rfl⟩⟩⟩
  · have e := take_flat xs i.toNat (by omega)
    have hfl := flat_bound xs (i.toNat + 1)
    rw [e, List.length_append] at hfl
    have hw : IntKind.wrap .i64 (i + 1) = i + 1 := wrapM _ (by omega) (by omega)
    have hw2 : IntKind.wrap .i64 (s + ((xs.getD i.toNat []).length : Int)) = s + ((xs.getD i.toNat []).length : Int) := wrapK _ (by omega) (by omega)
    rw [hw, hw2]
    refine ⟨⟨h0, hlt⟩, fun h => by omega, fun _ => ⟨⟨by omega, by omega, ?_⟩, by omega⟩⟩
    rw [show (i + 1).toNat = i.toNat + 1 by omega, e, List.length_append]
    omega
  · have hw3 : IntKind.wrap .i64 (s - IntKind.wrap .i64 (0 - 0)) = s := by rw [show IntKind.wrap .i64 (0 - 0) = 0 by decide, wrapK _ (by omega) (by omega)]; omega
    rw [hw3] at hpos ⊢
    exact ⟨⟨by decide, by decide⟩, hpos, by omega, ⟨by decide, by omega⟩, flat_loop xs hl hp _ (by simp)⟩
theorem h97 : c_slices_Concat_byte_byte.ok Tryd.prog GL 97 := con_ok (H := {}) (mkEnv_ok (gl := GL) (l := [(112, i112)]) (q := []) (d := []) _ tyOk (by kernel_rfl) ⟨i112_ok, trivial⟩ trivial trivial) (by kernel_rfl) (by kernel_rfl) (Eq.mp e97 k97)

def t72 : Prop :=
  ∀ (x : List Int × Int × List (List Int) × Unit), Kd.wf (Kd.sl (Kd.int IntKind.u8)) x.fst ∧ Kd.wf (Kd.int IntKind.i64) x.snd.fst ∧ Kd.wf (Kd.sl (Kd.sl (Kd.int IntKind.u8))) x.snd.snd.fst ∧
  True → lenB x.fst ≤ (900000000 : Nat) → True ∧ (∀ (y : Bool × Unit), Kd.wf Kd.bool y.fst ∧ True → y.fst = isTagD x.snd.fst → ((!y.fst) = true → ([], (2 : Int)) = PutD x.fst x.snd.fst
  (List.flatten x.snd.snd.fst)) ∧ ((!y.fst) = false → ∃ (I : Int × Int × Int × Unit → List Int × Unit → Prop), ∃ (μ : Int × Int × Int × Unit → List Int × Unit → Nat), ((↑(List.length
  x.snd.snd.fst) : Int) = (↑(List.length x.snd.snd.fst) : Int) ∧ x.snd.snd.fst = x.snd.snd.fst ∧ Value.bool false = Value.bool false ∧ x.fst = x.fst ∧ x.snd.fst = x.snd.fst ∧ x.snd.snd.fst =
  x.snd.snd.fst ∧ I ((0 : Int), (0 : Int), (0 : Int), ()) ([], ())) ∧ ∀ (y : Int × Int × Int × Unit) (z : List Int × Unit), Kd.wf (Kd.int IntKind.i64) y.fst ∧ Kd.wf (Kd.int IntKind.i64)
  y.snd.fst ∧ Kd.wf (Kd.int IntKind.i64) y.snd.snd.fst ∧ True → Kd.wf (Kd.sl (Kd.int IntKind.u8)) z.fst ∧ True → I y z → (decide (y.fst < (↑(List.length x.snd.snd.fst) : Int)) = true → ((0 :
  Int) ≤ y.fst ∧ y.fst < (↑(List.length x.snd.snd.fst) : Int)) ∧ (decide (IntKind.wrap IntKind.i64 ((16777215 : Int) - y.snd.fst) < (↑(List.length (List.getD x.snd.snd.fst (Int.toNat y.fst)
  (Kd.dft (Kd.sl (Kd.int IntKind.u8))))) : Int)) = true → ([], (3 : Int)) = PutD x.fst x.snd.fst (List.flatten x.snd.snd.fst)) ∧ (decide (IntKind.wrap IntKind.i64 ((16777215 : Int) -
  y.snd.fst) < (↑(List.length (List.getD x.snd.snd.fst (Int.toNat y.fst) (Kd.dft (Kd.sl (Kd.int IntKind.u8))))) : Int)) = false → (↑(List.length x.snd.snd.fst) : Int) = (↑(List.length
  x.snd.snd.fst) : Int) ∧ x.snd.snd.fst = x.snd.snd.fst ∧ Value.bool false = Value.bool false ∧ x.fst = x.fst ∧ x.snd.fst = x.snd.fst ∧ x.snd.snd.fst = x.snd.snd.fst ∧ I (IntKind.wrap
  IntKind.i64 (y.fst + (1 : Int)), IntKind.wrap IntKind.i64 (y.snd.fst + (↑(List.length (List.getD x.snd.snd.fst (Int.toNat y.fst) (Kd.dft (Kd.sl (Kd.int IntKind.u8))))) : Int)),
  y.snd.snd.fst, ()) (z.fst, ()) ∧ μ (IntKind.wrap IntKind.i64 (y.fst + (1 : Int)), IntKind.wrap IntKind.i64 (y.snd.fst + (↑(List.length (List.getD x.snd.snd.fst (Int.toNat y.fst) (Kd.dft
  (Kd.sl (Kd.int IntKind.u8))))) : Int)), y.snd.snd.fst, ()) (z.fst, ()) < μ y z)) ∧ (decide (y.fst < (↑(List.length x.snd.snd.fst) : Int)) = false → ((0 : Int) ≤ y.snd.fst ∧ y.snd.fst ≤
  (16777215 : Int)) ∧ (∀ (y_1 : List Int × Unit), Kd.wf (Kd.sl (Kd.int IntKind.u8)) y_1.fst ∧ True → y_1.fst = lngD y.snd.fst → lenF [x.fst, [IntKind.wrap IntKind.u8 x.snd.fst], y_1.fst] ≤
  (1000000000 : Nat) ∧ (∀ (y : List Int × Unit), Kd.wf (Kd.sl (Kd.int IntKind.u8)) y.fst ∧ True → y.fst = List.flatten [x.fst, [IntKind.wrap IntKind.u8 x.snd.fst], y_1.fst] → lenF
  x.snd.snd.fst ≤ (1000000000 : Nat) ∧ (∀ (y_2 : List Int × Unit), Kd.wf (Kd.sl (Kd.int IntKind.u8)) y_2.fst ∧ True → y_2.fst = List.flatten x.snd.snd.fst → lenF [y.fst, y_2.fst] ≤
  (1000000000 : Nat) ∧ (∀ (y_3 : List Int × Unit), Kd.wf (Kd.sl (Kd.int IntKind.u8)) y_3.fst ∧ True → y_3.fst = List.flatten [y.fst, y_2.fst] → (y_3.fst, (0 : Int)) = PutD x.fst x.snd.fst
  (List.flatten x.snd.snd.fst)) ∧ True) ∧ True) ∧ True) ∧ True))) ∧ True
theorem e72 : t72 = Con.vc c_der_Put GL (mkEnv ty [(96, conSem c_der_isTag), (89, conSem c_der_length), (97, conSem c_slices_Concat_byte_byte)] [] [] [0, 1, 2, 6, 7, 8, 10, 11, 14, 15, 16, 17, 18, 25]) {} Tryd.f72.ntmps Tryd.f72.results.toList (bodyOf Tryd.f72) := by kernel_rfl
theorem k72 : t72 := by
  unfold t72
  rintro ⟨b, t, cs, _⟩ hx hp
  have hp : b.length ≤ 900000000 := hp
  have hcl : cs.length ≤ 9223372036854775807 := hx.2.2.1.1
  try dsimp +instances only [dft_int, dft_sl, dft_str]
  simp only [true_and, and_true, eq_self_iff_true, implies_true, reduceCtorEq, false_implies, true_implies, decide_eq_true_eq, decide_eq_false_iff_not, beq_self_eq_true, Bool.not_eq_true', ne_eq, Decidable.not_not, List.nil_append, List.length_singleton, List.length_cons, List.length_nil, Nat.zero_add, Nat.add_zero, Nat.mul_one, and_self, beq_iff_eq, Bool.not_true, Bool.not_false, Bool.not_eq_false', Bool.cond_false_right, Bool.and_eq_true, imp_self, Bool.not_eq_true, Bool.cond_true_left, Bool.or_eq_true]
  rintro ⟨q, _⟩ _ eq
  simp only at eq ⊢
  subst eq
  refine ⟨fun h => by rw [PutD, if_pos h], fun h => ?_⟩
  refine ⟨fun y _ => 0 ≤ y.1 ∧ y.1 ≤ cs.length ∧ y.2.1 = ((cs.take y.1.toNat).flatten.length : Int) ∧ y.2.1 ≤ 16777215, fun y _ => ((cs.length : Int) - y.1).toNat, ⟨Int.le_refl 0, by simp only; omega, by simp, by decide⟩, ?_⟩
  rintro ⟨i, s, k, _⟩ _ _ _ ⟨h0, h1, h2, h3⟩
  simp only at h0 h1 h2 h3 ⊢
  refine ⟨fun hlt => ?_, fun hge => ?_⟩
  · have e := take_flat cs i.toNat (by omega)
    have hl := flat_bound cs (i.toNat + 1)
    rw [e, List.length_append] at hl
    rw [wrapK (16777215 - s) (by omega) (by omega), wrapM (i + 1) (by omega) (by omega)]
    refine ⟨⟨h0, hlt⟩, fun hb => ?_, fun hb => ?_⟩
    · rw [PutD, if_neg (by rw [h]; decide), if_pos (by omega)]
    · rw [wrapK (s + ((cs.getD i.toNat []).length : Int)) (by omega) (by omega)]
      refine ⟨⟨by omega, by omega, ?_, by omega⟩, by omega⟩
      rw [show (i + 1).toNat = i.toNat + 1 by omega, e, List.length_append]
      omega
  · have hs : s = (cs.flatten.length : Int) := by rw [h2, List.take_of_length_le (by omega)]
    have hll := lng_len (n := s)
    refine ⟨⟨by omega, h3⟩, ?_⟩
    rintro ⟨l, _⟩ _ el
    simp only at el ⊢
    subst el
    refine ⟨by simp only [lenF, List.flatten_cons, List.flatten_nil, List.length_append, List.length_cons, List.length_nil]; omega, ?_⟩
    rintro ⟨o, _⟩ _ eo
    simp only at eo ⊢
    refine ⟨by rw [lenF]; omega, ?_⟩
    rintro ⟨c, _⟩ _ ec
    simp only at ec ⊢
    have hol : o.length = b.length + 1 + (lngD s).length := by rw [eo]; simp; omega
    refine ⟨by simp only [lenF, List.flatten_cons, List.flatten_nil, List.length_append, List.length_nil]; rw [ec]; omega, ?_⟩
    rintro ⟨r, _⟩ _ er
    simp only at er ⊢
    obtain ⟨t0, t1, _⟩ := tag_range h
    rw [PutD, if_neg (by rw [h]; decide), if_neg (by omega), er, eo, ec, wrap8 t t0 t1, putB]
    simp only
    rw [← hs]
    simp
theorem h72 : c_der_Put.ok Tryd.prog GL 72 := con_ok (H := {}) (mkEnv_ok (gl := GL) (l := [(96, conSem c_der_isTag), (89, conSem c_der_length), (97, conSem c_slices_Concat_byte_byte)]) (q := []) (d := []) _ tyOk (by kernel_rfl) ⟨h96.call, h89.call, h97.call, trivial⟩ trivial trivial) (by kernel_rfl) (by kernel_rfl) (Eq.mp e72 k72)

def t86 : Prop :=
  ∀ (x : List Int × Unit), Kd.wf (Kd.sl (Kd.int IntKind.u8)) x.fst ∧ True → lenB x.fst ≤ (1000000000 : Nat) → (decide ((↑(List.length x.fst) : Int) = (0 : Int)) = true → ((0 : Int), (0 :
  Int), (0 : Int), (10 : Int)) = headK x.fst) ∧ (decide ((↑(List.length x.fst) : Int) = (0 : Int)) = false → ((0 : Int) ≤ (0 : Int) ∧ (0 : Int) < (↑(List.length x.fst) : Int)) ∧ True ∧ (∀ (y
  : Bool × Unit), Kd.wf Kd.bool y.fst ∧ True → y.fst = isTagD (IntKind.wrap IntKind.i64 (List.getD x.fst (0 : Nat) (Kd.dft (Kd.int IntKind.u8)))) → ((!y.fst) = true → ((0 : Int), (0 : Int),
  (0 : Int), (11 : Int)) = headK x.fst) ∧ ((!y.fst) = false → (decide ((↑(List.length x.fst) : Int) = (1 : Int)) = true → ((0 : Int), (0 : Int), (0 : Int), (10 : Int)) = headK x.fst) ∧
  (decide ((↑(List.length x.fst) : Int) = (1 : Int)) = false → ((0 : Int) ≤ (1 : Int) ∧ (1 : Int) < (↑(List.length x.fst) : Int)) ∧ (decide (IntKind.wrap IntKind.i64 (IntKind.wrap IntKind.i64
  (List.getD x.fst (1 : Nat) (Kd.dft (Kd.int IntKind.u8))) - (128 : Int)) < (0 : Int)) = true → ((0 : Int) ≤ (0 : Int) ∧ (0 : Int) < (↑(List.length x.fst) : Int)) ∧ ((0 : Int) ≤ (1 : Int) ∧
  (1 : Int) < (↑(List.length x.fst) : Int)) ∧ (IntKind.wrap IntKind.i64 (List.getD x.fst (0 : Nat) (Kd.dft (Kd.int IntKind.u8))), (2 : Int), IntKind.wrap IntKind.i64 (List.getD x.fst (1 :
  Nat) (Kd.dft (Kd.int IntKind.u8))), (0 : Int)) = headK x.fst) ∧ (decide (IntKind.wrap IntKind.i64 (IntKind.wrap IntKind.i64 (List.getD x.fst (1 : Nat) (Kd.dft (Kd.int IntKind.u8))) - (128 :
  Int)) < (0 : Int)) = false → (decide (IntKind.wrap IntKind.i64 (IntKind.wrap IntKind.i64 (List.getD x.fst (1 : Nat) (Kd.dft (Kd.int IntKind.u8))) - (128 : Int)) = (0 : Int)) = false → True)
  ∧ (decide (IntKind.wrap IntKind.i64 (IntKind.wrap IntKind.i64 (List.getD x.fst (1 : Nat) (Kd.dft (Kd.int IntKind.u8))) - (128 : Int)) = (0 : Int)) = false → (decide (IntKind.wrap
  IntKind.i64 (IntKind.wrap IntKind.i64 (List.getD x.fst (1 : Nat) (Kd.dft (Kd.int IntKind.u8))) - (128 : Int)) = (0 : Int)) == false) = true ∧ True) ∧ (decide (IntKind.wrap IntKind.i64
  (IntKind.wrap IntKind.i64 (List.getD x.fst (1 : Nat) (Kd.dft (Kd.int IntKind.u8))) - (128 : Int)) = (0 : Int)) = false → (decide (IntKind.wrap IntKind.i64 (IntKind.wrap IntKind.i64
  (List.getD x.fst (1 : Nat) (Kd.dft (Kd.int IntKind.u8))) - (128 : Int)) = (0 : Int)) == false) = true) ∧ ((bif decide (IntKind.wrap IntKind.i64 (IntKind.wrap IntKind.i64 (List.getD x.fst (1
  : Nat) (Kd.dft (Kd.int IntKind.u8))) - (128 : Int)) = (0 : Int)) then true else decide ((3 : Int) < IntKind.wrap IntKind.i64 (IntKind.wrap IntKind.i64 (List.getD x.fst (1 : Nat) (Kd.dft
  (Kd.int IntKind.u8))) - (128 : Int)))) = false → True) ∧ ((bif decide (IntKind.wrap IntKind.i64 (IntKind.wrap IntKind.i64 (List.getD x.fst (1 : Nat) (Kd.dft (Kd.int IntKind.u8))) - (128 :
  Int)) = (0 : Int)) then true else decide ((3 : Int) < IntKind.wrap IntKind.i64 (IntKind.wrap IntKind.i64 (List.getD x.fst (1 : Nat) (Kd.dft (Kd.int IntKind.u8))) - (128 : Int)))) = false →
  ((bif decide (IntKind.wrap IntKind.i64 (IntKind.wrap IntKind.i64 (List.getD x.fst (1 : Nat) (Kd.dft (Kd.int IntKind.u8))) - (128 : Int)) = (0 : Int)) then true else decide ((3 : Int) <
  IntKind.wrap IntKind.i64 (IntKind.wrap IntKind.i64 (List.getD x.fst (1 : Nat) (Kd.dft (Kd.int IntKind.u8))) - (128 : Int)))) == false) = true ∧ True) ∧ ((bif decide (IntKind.wrap
  IntKind.i64 (IntKind.wrap IntKind.i64 (List.getD x.fst (1 : Nat) (Kd.dft (Kd.int IntKind.u8))) - (128 : Int)) = (0 : Int)) then true else decide ((3 : Int) < IntKind.wrap IntKind.i64
  (IntKind.wrap IntKind.i64 (List.getD x.fst (1 : Nat) (Kd.dft (Kd.int IntKind.u8))) - (128 : Int)))) = false → ((bif decide (IntKind.wrap IntKind.i64 (IntKind.wrap IntKind.i64 (List.getD
  x.fst (1 : Nat) (Kd.dft (Kd.int IntKind.u8))) - (128 : Int)) = (0 : Int)) then true else decide ((3 : Int) < IntKind.wrap IntKind.i64 (IntKind.wrap IntKind.i64 (List.getD x.fst (1 : Nat)
  (Kd.dft (Kd.int IntKind.u8))) - (128 : Int)))) == false) = true ∧ True) ∧ ((bif decide (IntKind.wrap IntKind.i64 (IntKind.wrap IntKind.i64 (List.getD x.fst (1 : Nat) (Kd.dft (Kd.int
  IntKind.u8))) - (128 : Int)) = (0 : Int)) then true else decide ((3 : Int) < IntKind.wrap IntKind.i64 (IntKind.wrap IntKind.i64 (List.getD x.fst (1 : Nat) (Kd.dft (Kd.int IntKind.u8))) -
  (128 : Int)))) = false → True) ∧ (((bif decide (IntKind.wrap IntKind.i64 (IntKind.wrap IntKind.i64 (List.getD x.fst (1 : Nat) (Kd.dft (Kd.int IntKind.u8))) - (128 : Int)) = (0 : Int)) then
  true else decide ((3 : Int) < IntKind.wrap IntKind.i64 (IntKind.wrap IntKind.i64 (List.getD x.fst (1 : Nat) (Kd.dft (Kd.int IntKind.u8))) - (128 : Int)))) == false && (bif decide
  (IntKind.wrap IntKind.i64 (IntKind.wrap IntKind.i64 (List.getD x.fst (1 : Nat) (Kd.dft (Kd.int IntKind.u8))) - (128 : Int)) = (0 : Int)) then true else decide ((3 : Int) < IntKind.wrap
  IntKind.i64 (IntKind.wrap IntKind.i64 (List.getD x.fst (1 : Nat) (Kd.dft (Kd.int IntKind.u8))) - (128 : Int)))) == false) = true → decide ((2 : Int) < (↑(List.length x.fst) : Int)) = true →
  True) ∧ (((bif decide (IntKind.wrap IntKind.i64 (IntKind.wrap IntKind.i64 (List.getD x.fst (1 : Nat) (Kd.dft (Kd.int IntKind.u8))) - (128 : Int)) = (0 : Int)) then true else decide ((3 :
  Int) < IntKind.wrap IntKind.i64 (IntKind.wrap IntKind.i64 (List.getD x.fst (1 : Nat) (Kd.dft (Kd.int IntKind.u8))) - (128 : Int)))) == false && (bif decide (IntKind.wrap IntKind.i64
  (IntKind.wrap IntKind.i64 (List.getD x.fst (1 : Nat) (Kd.dft (Kd.int IntKind.u8))) - (128 : Int)) = (0 : Int)) then true else decide ((3 : Int) < IntKind.wrap IntKind.i64 (IntKind.wrap
  IntKind.i64 (List.getD x.fst (1 : Nat) (Kd.dft (Kd.int IntKind.u8))) - (128 : Int)))) == false) = true → decide ((2 : Int) < (↑(List.length x.fst) : Int)) = true → ((bif decide
  (IntKind.wrap IntKind.i64 (IntKind.wrap IntKind.i64 (List.getD x.fst (1 : Nat) (Kd.dft (Kd.int IntKind.u8))) - (128 : Int)) = (0 : Int)) then true else decide ((3 : Int) < IntKind.wrap
  IntKind.i64 (IntKind.wrap IntKind.i64 (List.getD x.fst (1 : Nat) (Kd.dft (Kd.int IntKind.u8))) - (128 : Int)))) == false && (bif decide (IntKind.wrap IntKind.i64 (IntKind.wrap IntKind.i64
  (List.getD x.fst (1 : Nat) (Kd.dft (Kd.int IntKind.u8))) - (128 : Int)) = (0 : Int)) then true else decide ((3 : Int) < IntKind.wrap IntKind.i64 (IntKind.wrap IntKind.i64 (List.getD x.fst
  (1 : Nat) (Kd.dft (Kd.int IntKind.u8))) - (128 : Int)))) == false && decide ((2 : Int) < (↑(List.length x.fst) : Int)) == true) = true ∧ ((0 : Int) ≤ (2 : Int) ∧ (2 : Int) < (↑(List.length
  x.fst) : Int)) ∧ True) ∧ (((bif decide (IntKind.wrap IntKind.i64 (IntKind.wrap IntKind.i64 (List.getD x.fst (1 : Nat) (Kd.dft (Kd.int IntKind.u8))) - (128 : Int)) = (0 : Int)) then true
  else decide ((3 : Int) < IntKind.wrap IntKind.i64 (IntKind.wrap IntKind.i64 (List.getD x.fst (1 : Nat) (Kd.dft (Kd.int IntKind.u8))) - (128 : Int)))) == false && (bif decide (IntKind.wrap
  IntKind.i64 (IntKind.wrap IntKind.i64 (List.getD x.fst (1 : Nat) (Kd.dft (Kd.int IntKind.u8))) - (128 : Int)) = (0 : Int)) then true else decide ((3 : Int) < IntKind.wrap IntKind.i64
  (IntKind.wrap IntKind.i64 (List.getD x.fst (1 : Nat) (Kd.dft (Kd.int IntKind.u8))) - (128 : Int)))) == false) = true → decide ((2 : Int) < (↑(List.length x.fst) : Int)) = true → ((bif
  decide (IntKind.wrap IntKind.i64 (IntKind.wrap IntKind.i64 (List.getD x.fst (1 : Nat) (Kd.dft (Kd.int IntKind.u8))) - (128 : Int)) = (0 : Int)) then true else decide ((3 : Int) <
  IntKind.wrap IntKind.i64 (IntKind.wrap IntKind.i64 (List.getD x.fst (1 : Nat) (Kd.dft (Kd.int IntKind.u8))) - (128 : Int)))) == false && (bif decide (IntKind.wrap IntKind.i64 (IntKind.wrap
  IntKind.i64 (List.getD x.fst (1 : Nat) (Kd.dft (Kd.int IntKind.u8))) - (128 : Int)) = (0 : Int)) then true else decide ((3 : Int) < IntKind.wrap IntKind.i64 (IntKind.wrap IntKind.i64
  (List.getD x.fst (1 : Nat) (Kd.dft (Kd.int IntKind.u8))) - (128 : Int)))) == false && decide ((2 : Int) < (↑(List.length x.fst) : Int)) == true) = true ∧ True) ∧ (((bif decide (IntKind.wrap
  IntKind.i64 (IntKind.wrap IntKind.i64 (List.getD x.fst (1 : Nat) (Kd.dft (Kd.int IntKind.u8))) - (128 : Int)) = (0 : Int)) then true else decide ((3 : Int) < IntKind.wrap IntKind.i64
  (IntKind.wrap IntKind.i64 (List.getD x.fst (1 : Nat) (Kd.dft (Kd.int IntKind.u8))) - (128 : Int)))) == false && (bif decide (IntKind.wrap IntKind.i64 (IntKind.wrap IntKind.i64 (List.getD
  x.fst (1 : Nat) (Kd.dft (Kd.int IntKind.u8))) - (128 : Int)) = (0 : Int)) then true else decide ((3 : Int) < IntKind.wrap IntKind.i64 (IntKind.wrap IntKind.i64 (List.getD x.fst (1 : Nat)
  (Kd.dft (Kd.int IntKind.u8))) - (128 : Int)))) == false) = true → decide ((2 : Int) < (↑(List.length x.fst) : Int)) = true → ((bif decide (IntKind.wrap IntKind.i64 (IntKind.wrap IntKind.i64
  (List.getD x.fst (1 : Nat) (Kd.dft (Kd.int IntKind.u8))) - (128 : Int)) = (0 : Int)) then true else decide ((3 : Int) < IntKind.wrap IntKind.i64 (IntKind.wrap IntKind.i64 (List.getD x.fst
  (1 : Nat) (Kd.dft (Kd.int IntKind.u8))) - (128 : Int)))) == false && (bif decide (IntKind.wrap IntKind.i64 (IntKind.wrap IntKind.i64 (List.getD x.fst (1 : Nat) (Kd.dft (Kd.int IntKind.u8)))
  - (128 : Int)) = (0 : Int)) then true else decide ((3 : Int) < IntKind.wrap IntKind.i64 (IntKind.wrap IntKind.i64 (List.getD x.fst (1 : Nat) (Kd.dft (Kd.int IntKind.u8))) - (128 : Int))))
  == false && decide ((2 : Int) < (↑(List.length x.fst) : Int)) == true) = true ∧ True) ∧ ((bif decide (IntKind.wrap IntKind.i64 (IntKind.wrap IntKind.i64 (List.getD x.fst (1 : Nat) (Kd.dft
  (Kd.int IntKind.u8))) - (128 : Int)) = (0 : Int)) then true else decide ((3 : Int) < IntKind.wrap IntKind.i64 (IntKind.wrap IntKind.i64 (List.getD x.fst (1 : Nat) (Kd.dft (Kd.int
  IntKind.u8))) - (128 : Int)))) = false → ((bif decide (IntKind.wrap IntKind.i64 (IntKind.wrap IntKind.i64 (List.getD x.fst (1 : Nat) (Kd.dft (Kd.int IntKind.u8))) - (128 : Int)) = (0 :
  Int)) then true else decide ((3 : Int) < IntKind.wrap IntKind.i64 (IntKind.wrap IntKind.i64 (List.getD x.fst (1 : Nat) (Kd.dft (Kd.int IntKind.u8))) - (128 : Int)))) == false && (bif decide
  (IntKind.wrap IntKind.i64 (IntKind.wrap IntKind.i64 (List.getD x.fst (1 : Nat) (Kd.dft (Kd.int IntKind.u8))) - (128 : Int)) = (0 : Int)) then true else decide ((3 : Int) < IntKind.wrap
  IntKind.i64 (IntKind.wrap IntKind.i64 (List.getD x.fst (1 : Nat) (Kd.dft (Kd.int IntKind.u8))) - (128 : Int)))) == false) = true ∧ (decide ((2 : Int) < (↑(List.length x.fst) : Int)) = true
  → ((bif decide (IntKind.wrap IntKind.i64 (IntKind.wrap IntKind.i64 (List.getD x.fst (1 : Nat) (Kd.dft (Kd.int IntKind.u8))) - (128 : Int)) = (0 : Int)) then true else decide ((3 : Int) <
  IntKind.wrap IntKind.i64 (IntKind.wrap IntKind.i64 (List.getD x.fst (1 : Nat) (Kd.dft (Kd.int IntKind.u8))) - (128 : Int)))) == false && (bif decide (IntKind.wrap IntKind.i64 (IntKind.wrap
  IntKind.i64 (List.getD x.fst (1 : Nat) (Kd.dft (Kd.int IntKind.u8))) - (128 : Int)) = (0 : Int)) then true else decide ((3 : Int) < IntKind.wrap IntKind.i64 (IntKind.wrap IntKind.i64
  (List.getD x.fst (1 : Nat) (Kd.dft (Kd.int IntKind.u8))) - (128 : Int)))) == false && decide ((2 : Int) < (↑(List.length x.fst) : Int)) == true) = true) ∧ True) ∧ ((bif decide (IntKind.wrap
  IntKind.i64 (IntKind.wrap IntKind.i64 (List.getD x.fst (1 : Nat) (Kd.dft (Kd.int IntKind.u8))) - (128 : Int)) = (0 : Int)) then true else decide ((3 : Int) < IntKind.wrap IntKind.i64
  (IntKind.wrap IntKind.i64 (List.getD x.fst (1 : Nat) (Kd.dft (Kd.int IntKind.u8))) - (128 : Int)))) = false → ((bif decide (IntKind.wrap IntKind.i64 (IntKind.wrap IntKind.i64 (List.getD
  x.fst (1 : Nat) (Kd.dft (Kd.int IntKind.u8))) - (128 : Int)) = (0 : Int)) then true else decide ((3 : Int) < IntKind.wrap IntKind.i64 (IntKind.wrap IntKind.i64 (List.getD x.fst (1 : Nat)
  (Kd.dft (Kd.int IntKind.u8))) - (128 : Int)))) == false) = true) ∧ ((bif bif decide (IntKind.wrap IntKind.i64 (IntKind.wrap IntKind.i64 (List.getD x.fst (1 : Nat) (Kd.dft (Kd.int
  IntKind.u8))) - (128 : Int)) = (0 : Int)) then true else decide ((3 : Int) < IntKind.wrap IntKind.i64 (IntKind.wrap IntKind.i64 (List.getD x.fst (1 : Nat) (Kd.dft (Kd.int IntKind.u8))) -
  (128 : Int))) then true else bif decide ((2 : Int) < (↑(List.length x.fst) : Int)) then decide (List.getD x.fst (2 : Nat) (Kd.dft (Kd.int IntKind.u8)) = (0 : Int)) else false) = true → ((0
  : Int), (0 : Int), (0 : Int), (12 : Int)) = headK x.fst) ∧ ((bif bif decide (IntKind.wrap IntKind.i64 (IntKind.wrap IntKind.i64 (List.getD x.fst (1 : Nat) (Kd.dft (Kd.int IntKind.u8))) -
  (128 : Int)) = (0 : Int)) then true else decide ((3 : Int) < IntKind.wrap IntKind.i64 (IntKind.wrap IntKind.i64 (List.getD x.fst (1 : Nat) (Kd.dft (Kd.int IntKind.u8))) - (128 : Int))) then
  true else bif decide ((2 : Int) < (↑(List.length x.fst) : Int)) then decide (List.getD x.fst (2 : Nat) (Kd.dft (Kd.int IntKind.u8)) = (0 : Int)) else false) = false → (decide
  ((↑(List.length x.fst) : Int) < IntKind.wrap IntKind.i64 ((2 : Int) + IntKind.wrap IntKind.i64 (IntKind.wrap IntKind.i64 (List.getD x.fst (1 : Nat) (Kd.dft (Kd.int IntKind.u8))) - (128 :
  Int)))) = true → ((0 : Int), (0 : Int), (0 : Int), (10 : Int)) = headK x.fst) ∧ (decide ((↑(List.length x.fst) : Int) < IntKind.wrap IntKind.i64 ((2 : Int) + IntKind.wrap IntKind.i64
  (IntKind.wrap IntKind.i64 (List.getD x.fst (1 : Nat) (Kd.dft (Kd.int IntKind.u8))) - (128 : Int)))) = false → ((0 : Int) ≤ (2 : Int) ∧ (2 : Int) ≤ IntKind.wrap IntKind.i64 ((2 : Int) +
  IntKind.wrap IntKind.i64 (IntKind.wrap IntKind.i64 (List.getD x.fst (1 : Nat) (Kd.dft (Kd.int IntKind.u8))) - (128 : Int))) ∧ IntKind.wrap IntKind.i64 ((2 : Int) + IntKind.wrap IntKind.i64
  (IntKind.wrap IntKind.i64 (List.getD x.fst (1 : Nat) (Kd.dft (Kd.int IntKind.u8))) - (128 : Int))) ≤ (↑(List.length x.fst) : Int)) ∧ ∃ (I : Int × Int × Unit → Unit → Prop), ∃ (μ : Int × Int
  × Unit → Unit → Nat), ((↑(List.length (List.drop (2 : Nat) (List.take (Int.toNat (IntKind.wrap IntKind.i64 ((2 : Int) + IntKind.wrap IntKind.i64 (IntKind.wrap IntKind.i64 (List.getD x.fst
  (1 : Nat) (Kd.dft (Kd.int IntKind.u8))) - (128 : Int))))) x.fst))) : Int) = (↑(List.length (List.drop (2 : Nat) (List.take (Int.toNat (IntKind.wrap IntKind.i64 ((2 : Int) + IntKind.wrap
  IntKind.i64 (IntKind.wrap IntKind.i64 (List.getD x.fst (1 : Nat) (Kd.dft (Kd.int IntKind.u8))) - (128 : Int))))) x.fst))) : Int) ∧ List.drop (2 : Nat) (List.take (Int.toNat (IntKind.wrap
  IntKind.i64 ((2 : Int) + IntKind.wrap IntKind.i64 (IntKind.wrap IntKind.i64 (List.getD x.fst (1 : Nat) (Kd.dft (Kd.int IntKind.u8))) - (128 : Int))))) x.fst) = List.drop (2 : Nat)
  (List.take (Int.toNat (IntKind.wrap IntKind.i64 ((2 : Int) + IntKind.wrap IntKind.i64 (IntKind.wrap IntKind.i64 (List.getD x.fst (1 : Nat) (Kd.dft (Kd.int IntKind.u8))) - (128 : Int)))))
  x.fst) ∧ Value.bool false = Value.bool false ∧ Value.bool false = Value.bool false ∧ Value.bool false = Value.bool false ∧ IntKind.wrap IntKind.i64 (IntKind.wrap IntKind.i64 (List.getD
  x.fst (1 : Nat) (Kd.dft (Kd.int IntKind.u8))) - (128 : Int)) = IntKind.wrap IntKind.i64 (IntKind.wrap IntKind.i64 (List.getD x.fst (1 : Nat) (Kd.dft (Kd.int IntKind.u8))) - (128 : Int)) ∧
  Value.bool false = Value.bool false ∧ Value.bool false = Value.bool false ∧ Value.bool false = Value.bool false ∧ (0 : Int) = (0 : Int) ∧ (0 : Int) = (0 : Int) ∧ (0 : Int) = (0 : Int) ∧
  x.fst = x.fst ∧ I ((0 : Int), (0 : Int), ()) ()) ∧ ∀ (y : Int × Int × Unit) (z : Unit), Kd.wf (Kd.int IntKind.i64) y.fst ∧ Kd.wf (Kd.int IntKind.i64) y.snd.fst ∧ True → True → I y z →
  (decide (y.fst < (↑(List.length (List.drop (2 : Nat) (List.take (Int.toNat (IntKind.wrap IntKind.i64 ((2 : Int) + IntKind.wrap IntKind.i64 (IntKind.wrap IntKind.i64 (List.getD x.fst (1 :
  Nat) (Kd.dft (Kd.int IntKind.u8))) - (128 : Int))))) x.fst))) : Int)) = true → ((0 : Int) ≤ y.fst ∧ y.fst < (↑(List.length (List.drop (2 : Nat) (List.take (Int.toNat (IntKind.wrap
  IntKind.i64 ((2 : Int) + IntKind.wrap IntKind.i64 (IntKind.wrap IntKind.i64 (List.getD x.fst (1 : Nat) (Kd.dft (Kd.int IntKind.u8))) - (128 : Int))))) x.fst))) : Int)) ∧ (0 : Int) ≤ (8 :
  Int) ∧ (↑(List.length (List.drop (2 : Nat) (List.take (Int.toNat (IntKind.wrap IntKind.i64 ((2 : Int) + IntKind.wrap IntKind.i64 (IntKind.wrap IntKind.i64 (List.getD x.fst (1 : Nat) (Kd.dft
  (Kd.int IntKind.u8))) - (128 : Int))))) x.fst))) : Int) = (↑(List.length (List.drop (2 : Nat) (List.take (Int.toNat (IntKind.wrap IntKind.i64 ((2 : Int) + IntKind.wrap IntKind.i64
  (IntKind.wrap IntKind.i64 (List.getD x.fst (1 : Nat) (Kd.dft (Kd.int IntKind.u8))) - (128 : Int))))) x.fst))) : Int) ∧ List.drop (2 : Nat) (List.take (Int.toNat (IntKind.wrap IntKind.i64
  ((2 : Int) + IntKind.wrap IntKind.i64 (IntKind.wrap IntKind.i64 (List.getD x.fst (1 : Nat) (Kd.dft (Kd.int IntKind.u8))) - (128 : Int))))) x.fst) = List.drop (2 : Nat) (List.take (Int.toNat
  (IntKind.wrap IntKind.i64 ((2 : Int) + IntKind.wrap IntKind.i64 (IntKind.wrap IntKind.i64 (List.getD x.fst (1 : Nat) (Kd.dft (Kd.int IntKind.u8))) - (128 : Int))))) x.fst) ∧ Value.bool
  false = Value.bool false ∧ Value.bool false = Value.bool false ∧ Value.bool false = Value.bool false ∧ IntKind.wrap IntKind.i64 (IntKind.wrap IntKind.i64 (List.getD x.fst (1 : Nat) (Kd.dft
  (Kd.int IntKind.u8))) - (128 : Int)) = IntKind.wrap IntKind.i64 (IntKind.wrap IntKind.i64 (List.getD x.fst (1 : Nat) (Kd.dft (Kd.int IntKind.u8))) - (128 : Int)) ∧ Value.bool false =
  Value.bool false ∧ Value.bool false = Value.bool false ∧ Value.bool false = Value.bool false ∧ (0 : Int) = (0 : Int) ∧ (0 : Int) = (0 : Int) ∧ (0 : Int) = (0 : Int) ∧ x.fst = x.fst ∧ I
  (IntKind.wrap IntKind.i64 (y.fst + (1 : Int)), IntKind.wrap IntKind.i64 (↑(BitVec.toNat (BitVec.ofInt (64 : Nat) (IntKind.wrap IntKind.i64 (y.snd.fst * (2 : Int) ^ (8 : Nat))) |||
  BitVec.ofInt (64 : Nat) (IntKind.wrap IntKind.i64 (List.getD (List.drop (2 : Nat) (List.take (Int.toNat (IntKind.wrap IntKind.i64 ((2 : Int) + IntKind.wrap IntKind.i64 (IntKind.wrap
  IntKind.i64 (List.getD x.fst (1 : Nat) (Kd.dft (Kd.int IntKind.u8))) - (128 : Int))))) x.fst)) (Int.toNat y.fst) (Kd.dft (Kd.int IntKind.u8)))))) : Int), ()) () ∧ μ (IntKind.wrap
  IntKind.i64 (y.fst + (1 : Int)), IntKind.wrap IntKind.i64 (↑(BitVec.toNat (BitVec.ofInt (64 : Nat) (IntKind.wrap IntKind.i64 (y.snd.fst * (2 : Int) ^ (8 : Nat))) ||| BitVec.ofInt (64 : Nat)
  (IntKind.wrap IntKind.i64 (List.getD (List.drop (2 : Nat) (List.take (Int.toNat (IntKind.wrap IntKind.i64 ((2 : Int) + IntKind.wrap IntKind.i64 (IntKind.wrap IntKind.i64 (List.getD x.fst (1
  : Nat) (Kd.dft (Kd.int IntKind.u8))) - (128 : Int))))) x.fst)) (Int.toNat y.fst) (Kd.dft (Kd.int IntKind.u8)))))) : Int), ()) () < μ y z) ∧ (decide (y.fst < (↑(List.length (List.drop (2 :
  Nat) (List.take (Int.toNat (IntKind.wrap IntKind.i64 ((2 : Int) + IntKind.wrap IntKind.i64 (IntKind.wrap IntKind.i64 (List.getD x.fst (1 : Nat) (Kd.dft (Kd.int IntKind.u8))) - (128 :
  Int))))) x.fst))) : Int)) = false → (decide (y.snd.fst < (128 : Int)) = true → ((0 : Int), (0 : Int), (0 : Int), (12 : Int)) = headK x.fst) ∧ (decide (y.snd.fst < (128 : Int)) = false → ((0
  : Int) ≤ (0 : Int) ∧ (0 : Int) < (↑(List.length x.fst) : Int)) ∧ (IntKind.wrap IntKind.i64 (List.getD x.fst (0 : Nat) (Kd.dft (Kd.int IntKind.u8))), IntKind.wrap IntKind.i64 ((2 : Int) +
  IntKind.wrap IntKind.i64 (IntKind.wrap IntKind.i64 (List.getD x.fst (1 : Nat) (Kd.dft (Kd.int IntKind.u8))) - (128 : Int))), y.snd.fst, (0 : Int)) = headK x.fst)))))))) ∧ True)
theorem e86 : t86 = Con.vc c_der_head GL (mkEnv ty [(96, conSem c_der_isTag)] [] [] [0, 2, 3, 4, 5, 6, 8, 9, 13, 20, 29, 40, 58, 67, 68, 69, 70, 80]) {} Tryd.f86.ntmps Tryd.f86.results.toList (bodyOf Tryd.f86) := by kernel_rfl
theorem k86 : t86 := by
  unfold t86
  rintro ⟨b, _⟩ hx hp
  have hp : b.length ≤ 1000000000 := hp
  have hb : Bys b := sl_bys hx.1
  try dsimp +instances only [dft_int, dft_sl, dft_str]
  simp only [true_and, and_true, eq_self_iff_true, implies_true, reduceCtorEq, false_implies, true_implies, decide_eq_true_eq, decide_eq_false_iff_not, beq_self_eq_true, Bool.not_eq_true', ne_eq, Decidable.not_not, List.nil_append, List.length_singleton, List.length_cons, List.length_nil, Nat.zero_add, Nat.add_zero, Nat.mul_one, and_self, beq_iff_eq, Bool.not_true, Bool.not_false, Bool.not_eq_false', Bool.cond_false_right, Bool.and_eq_true, imp_self, Bool.not_eq_true, Bool.cond_true_left, Bool.or_eq_true]
  have b0 := bys_get hb 0
  have b1 := bys_get hb 1
  rw [wrapK (b.getD 0 0) (by omega) (by omega), wrapK (b.getD 1 0) (by omega) (by omega), wrapK (b.getD 1 0 - 128) (by omega) (by omega), wrapK (2 + (b.getD 1 0 - 128)) (by omega) (by omega)]
  have hnil : b = [] ↔ (b.length : Int) = 0 := ⟨fun h => by rw [h]; rfl, fun h => List.eq_nil_of_length_eq_zero (by omega)⟩
  unfold headK
  refine ⟨fun h => by rw [if_pos (hnil.2 h)], fun h => ⟨⟨by decide, by omega⟩, ?_⟩⟩
  rw [if_neg (fun e => h (hnil.1 e))]
  rintro ⟨q, _⟩ _ eq
  simp only at eq ⊢
  subst eq
  refine ⟨fun h1 => by rw [if_pos h1], fun h1 => ?_⟩
  rw [if_neg (by rw [h1]; decide)]
  refine ⟨fun h2 => by rw [if_pos (by omega)], fun h2 => ⟨⟨by decide, by omega⟩, fun h3 => ⟨⟨by decide, by omega⟩, ⟨by decide, by omega⟩, ?_⟩, fun h3 => ?_⟩⟩
  · rw [if_neg (by omega), if_pos (by omega)]
  rw [if_neg (by omega), if_neg (by omega)]
  refine ⟨fun g1 g2 => ⟨⟨g1, g2⟩, by decide, by omega⟩, fun g1 g2 => ⟨g1, g2⟩, fun g1 g2 => ⟨g1, g2⟩, fun g1 => ⟨g1, fun g2 => ⟨g1, g2⟩⟩, fun h4 => by rw [if_pos (by omega)], fun h4 => ?_⟩
  have h4' : ¬ (b.getD 1 0 = 128 ∨ 131 < b.getD 1 0 ∨ (2 < b.length ∧ b.getD 2 0 = 0)) := by
    simp only [Bool.or_eq_false_iff, Bool.and_eq_false_iff, decide_eq_false_iff_not] at h4
    omega
  rw [if_neg h4']
  refine ⟨fun h5 => by rw [if_pos h5], fun h5 => ⟨⟨by decide, by omega, by omega⟩, ?_⟩⟩
  rw [if_neg h5]
  have hsl : (b.take (2 + (b.getD 1 0 - 128)).toNat).drop 2 = (b.drop 2).take (b.getD 1 0 - 128).toNat := by
    rw [List.drop_take]
    congr 1
    omega
  rw [hsl]
  have hbl : Bys ((b.drop 2).take (b.getD 1 0 - 128).toNat) := bys_take (bys_drop hb 2) _
  have hll : ((b.drop 2).take (b.getD 1 0 - 128).toNat).length ≤ 3 := by rw [List.length_take]; omega
  generalize (b.drop 2).take (b.getD 1 0 - 128).toNat = l at hbl hll
  refine ⟨fun y _ => 0 ≤ y.1 ∧ y.1 ≤ l.length ∧ y.2.1 = numB (l.take y.1.toNat), fun y _ => ((l.length : Int) - y.1).toNat, ⟨Int.le_refl 0, by simp only; omega, rfl⟩, ?_⟩
  rintro ⟨i, n, _⟩ _ _ ⟨i0, i1, en⟩
  simp only at i0 i1 en ⊢
  refine ⟨fun hlt => ⟨⟨i0, hlt⟩, by decide, ?_⟩, fun hge => ?_⟩
  · have hnb := num_bound hbl (j := i.toNat) (by omega)
    rw [← en] at hnb
    rw [wrapK (i + 1) (by omega) (by omega), or8 (bys_get hbl _) hnb]
    refine ⟨⟨by omega, by omega, ?_⟩, by omega⟩
    rw [show (i + 1).toNat = i.toNat + 1 by omega, take_snoc l _ (by omega), num_snoc, en]
  · rw [List.take_of_length_le (by omega)] at en
    rw [en]
    exact ⟨fun h6 => by rw [if_pos h6], fun h6 => ⟨⟨by decide, by omega⟩, by rw [if_neg h6]⟩⟩
theorem h86 : c_der_head.ok Tryd.prog GL 86 := con_ok (H := {}) (mkEnv_ok (gl := GL) (l := [(96, conSem c_der_isTag)]) (q := []) (d := []) _ tyOk (by kernel_rfl) ⟨h96.call, trivial⟩ trivial trivial) (by kernel_rfl) (by kernel_rfl) (Eq.mp e86 k86)

def t62 : Prop :=
  ∀ (x : List Int × Unit), Kd.wf (Kd.sl (Kd.int IntKind.u8)) x.fst ∧ True → lenB x.fst ≤ (1000000000 : Nat) → (2 : Nat) ≤ (65536 : Nat) ∧ lenB x.fst ≤ (1000000000 : Nat) ∧ (∀ (y : Int × Int ×
  Int × Int × Unit), Kd.wf (Kd.int IntKind.i64) y.fst ∧ Kd.wf (Kd.int IntKind.i64) y.snd.fst ∧ Kd.wf (Kd.int IntKind.i64) y.snd.snd.fst ∧ Kd.wf (Kd.int IntKind.i64) y.snd.snd.snd.fst ∧ True →
  (y.fst, y.snd.fst, y.snd.snd.fst, y.snd.snd.snd.fst) = headK x.fst → (decide (y.snd.snd.snd.fst = (0 : Int)) = true → True) ∧ (decide (y.snd.snd.snd.fst = (0 : Int)) = true → (decide
  (y.snd.snd.snd.fst = (0 : Int)) == true) = true ∧ True) ∧ (decide (y.snd.snd.snd.fst = (0 : Int)) = true → True) ∧ (decide (y.snd.snd.snd.fst = (0 : Int)) = true → (decide
  (y.snd.snd.snd.fst = (0 : Int)) == true) = true ∧ (decide (y.snd.snd.snd.fst = (0 : Int)) == true) = true ∧ True) ∧ (decide (y.snd.snd.snd.fst = (0 : Int)) = true → True) ∧ (decide
  (y.snd.snd.snd.fst = (0 : Int)) = true → (decide (y.snd.snd.snd.fst = (0 : Int)) == true) = true ∧ (decide (y.snd.snd.snd.fst = (0 : Int)) == true) = true ∧ True) ∧ (decide
  (y.snd.snd.snd.fst = (0 : Int)) = true → (decide (y.snd.snd.snd.fst = (0 : Int)) == true) = true) ∧ ((bif decide (y.snd.snd.snd.fst = (0 : Int)) then decide (IntKind.wrap IntKind.i64
  ((↑(List.length x.fst) : Int) - y.snd.fst) < y.snd.snd.fst) else false) = true → (decide ((10 : Int) ≠ (0 : Int)) = true → (((0 : Int), []), (0 : Int), (10 : Int)) = takeD x.fst) ∧ (decide
  ((10 : Int) ≠ (0 : Int)) = false → ((0 : Int) ≤ y.snd.fst ∧ y.snd.fst ≤ IntKind.wrap IntKind.i64 (y.snd.fst + y.snd.snd.fst) ∧ IntKind.wrap IntKind.i64 (y.snd.fst + y.snd.snd.fst) ≤
  (↑(List.length x.fst) : Int)) ∧ lenB (List.drop (Int.toNat y.snd.fst) (List.take (Int.toNat (IntKind.wrap IntKind.i64 (y.snd.fst + y.snd.snd.fst))) x.fst)) ≤ (1000000000 : Nat) ∧ (∀ (y_1 :
  List Int × Unit), Kd.wf (Kd.sl (Kd.int IntKind.u8)) y_1.fst ∧ True → y_1.fst = List.drop (Int.toNat y.snd.fst) (List.take (Int.toNat (IntKind.wrap IntKind.i64 (y.snd.fst + y.snd.snd.fst)))
  x.fst) → ((y.fst, y_1.fst), IntKind.wrap IntKind.i64 (y.snd.fst + y.snd.snd.fst), (0 : Int)) = takeD x.fst) ∧ True)) ∧ ((bif decide (y.snd.snd.snd.fst = (0 : Int)) then decide (IntKind.wrap
  IntKind.i64 ((↑(List.length x.fst) : Int) - y.snd.fst) < y.snd.snd.fst) else false) = false → (decide (y.snd.snd.snd.fst ≠ (0 : Int)) = true → (((0 : Int), []), (0 : Int),
  y.snd.snd.snd.fst) = takeD x.fst) ∧ (decide (y.snd.snd.snd.fst ≠ (0 : Int)) = false → ((0 : Int) ≤ y.snd.fst ∧ y.snd.fst ≤ IntKind.wrap IntKind.i64 (y.snd.fst + y.snd.snd.fst) ∧
  IntKind.wrap IntKind.i64 (y.snd.fst + y.snd.snd.fst) ≤ (↑(List.length x.fst) : Int)) ∧ lenB (List.drop (Int.toNat y.snd.fst) (List.take (Int.toNat (IntKind.wrap IntKind.i64 (y.snd.fst +
  y.snd.snd.fst))) x.fst)) ≤ (1000000000 : Nat) ∧ (∀ (y_1 : List Int × Unit), Kd.wf (Kd.sl (Kd.int IntKind.u8)) y_1.fst ∧ True → y_1.fst = List.drop (Int.toNat y.snd.fst) (List.take
  (Int.toNat (IntKind.wrap IntKind.i64 (y.snd.fst + y.snd.snd.fst))) x.fst) → ((y.fst, y_1.fst), IntKind.wrap IntKind.i64 (y.snd.fst + y.snd.snd.fst), (0 : Int)) = takeD x.fst) ∧ True))) ∧
  True
theorem e62 : t62 = Con.vc c_der_Take GL (mkEnv ty [(86, conSem c_der_head), (87, conSem c_slices_Clone_byte_byte)] [] [] [0, 2, 3, 4, 5, 6, 7, 8, 25, 27]) {} Tryd.f62.ntmps Tryd.f62.results.toList (bodyOf Tryd.f62) := by kernel_rfl
theorem k62 : t62 := by
  unfold t62
  rintro ⟨b, _⟩ hx hp
  have hp : b.length ≤ 1000000000 := hp
  have hb : Bys b := sl_bys hx.1
  try dsimp +instances only [dft_int, dft_sl, dft_str]
  simp only [true_and, and_true, eq_self_iff_true, implies_true, reduceCtorEq, false_implies, true_implies, decide_eq_true_eq, decide_eq_false_iff_not, beq_self_eq_true, Bool.not_eq_true', ne_eq, Decidable.not_not, List.nil_append, List.length_singleton, List.length_cons, List.length_nil, Nat.zero_add, Nat.add_zero, Nat.mul_one, and_self, beq_iff_eq, Bool.not_true, Bool.not_false, Bool.not_eq_false', Bool.cond_false_right, Bool.and_eq_true, imp_self, Bool.not_eq_true, Bool.cond_true_left, Bool.or_eq_true]
  refine ⟨by decide, hp, ?_⟩
  rintro ⟨t, f, n, e, _⟩ _ eh
  simp only at eh ⊢
  have k1 : (headK b).1 = t := by rw [← eh]
  have k2 : (headK b).2.1 = f := by rw [← eh]
  have k3 : (headK b).2.2.1 = n := by rw [← eh]
  have k4 : (headK b).2.2.2 = e := by rw [← eh]
  have hT : takeD b = if e ≠ 0 then ((0, []), 0, e) else if (b.length : Int) - f < n then ((0, []), 0, 10) else ((t, (b.drop f.toNat).take n.toNat), f + n, 0) := by rw [takeD, k1, k2, k3, k4]
  have hok : e = 0 → 2 ≤ f ∧ f ≤ 5 ∧ f ≤ b.length ∧ 0 ≤ n ∧ n ≤ 16777215 := fun h => by
    have := head_ok hb (by rw [k4]; exact h)
    rw [k2, k3] at this
    exact ⟨this.1, this.2.1, this.2.2.1, this.2.2.2.1, this.2.2.2.2.1⟩
  refine ⟨fun h => ⟨fun _ => ?_, fun h10 => by cases h10⟩, fun h => ⟨fun he => by rw [hT, if_pos he], fun he => ?_⟩⟩
  · obtain ⟨h1, h2⟩ := h
    have := hok h1
    rw [wrapK _ (by omega) (by omega)] at h2
    rw [hT, if_neg (by omega), if_pos h2]
  · have hk := hok he
    simp only [Bool.and_eq_false_iff, decide_eq_false_iff_not] at h
    have h := h.resolve_left (fun h => h he)
    rw [wrapK _ (by omega) (by omega)] at h
    rw [wrapK (f + n) (by omega) (by omega)]
    refine ⟨⟨by omega, by omega, by omega⟩, by rw [lenB, List.length_drop, List.length_take]; omega, ?_⟩
    rintro ⟨c, _⟩ _ ec
    simp only at ec ⊢
    rw [hT, if_neg (by omega), if_neg h, ec, List.drop_take, show (f + n).toNat - f.toNat = n.toNat by omega]
theorem h62 : c_der_Take.ok Tryd.prog GL 62 := con_ok (H := {}) (mkEnv_ok (gl := GL) (l := [(86, conSem c_der_head), (87, conSem c_slices_Clone_byte_byte)]) (q := []) (d := []) _ tyOk (by kernel_rfl) ⟨h86.call, h87.call, trivial⟩ trivial trivial) (by kernel_rfl) (by kernel_rfl) (Eq.mp e62 k62)

def t42 : Prop :=
  ∀ (x : List Int × Unit), Kd.wf (Kd.sl (Kd.int IntKind.u8)) x.fst ∧ True → lenB x.fst ≤ (1000000000 : Nat) → (2 : Nat) ≤ (65536 : Nat) ∧ lenB x.fst ≤ (1000000000 : Nat) ∧ (∀ (y : (Int × List
  Int) × Int × Int × Unit), Kd.wf (Kd.pair (Kd.int IntKind.i64) (Kd.sl (Kd.int IntKind.u8))) y.fst ∧ Kd.wf (Kd.int IntKind.i64) y.snd.fst ∧ Kd.wf (Kd.int IntKind.i64) y.snd.snd.fst ∧ True →
  (y.fst, y.snd.fst, y.snd.snd.fst) = takeD x.fst → (2 : Nat) ≤ (65536 : Nat) ∧ (decide (y.snd.snd.fst = (0 : Int)) = true → True) ∧ (decide (y.snd.snd.fst = (0 : Int)) = true → True) ∧
  (decide (y.snd.snd.fst = (0 : Int)) = true → (decide (y.snd.snd.fst = (0 : Int)) == true) = true ∧ True) ∧ (decide (y.snd.snd.fst = (0 : Int)) = true → (decide (y.snd.snd.fst = (0 : Int))
  == true) = true ∧ (decide (y.snd.snd.fst = (0 : Int)) == true) = true ∧ True) ∧ (decide (y.snd.snd.fst = (0 : Int)) = true → (decide (y.snd.snd.fst = (0 : Int)) == true) = true) ∧ ((bif
  decide (y.snd.snd.fst = (0 : Int)) then decide (y.snd.fst < (↑(List.length x.fst) : Int)) else false) = true → (((0 : Int), []), (13 : Int)) = oneD x.fst) ∧ ((bif decide (y.snd.snd.fst = (0
  : Int)) then decide (y.snd.fst < (↑(List.length x.fst) : Int)) else false) = false → ((y.fst.fst, y.fst.snd), y.snd.snd.fst) = oneD x.fst)) ∧ True
theorem e42 : t42 = Con.vc c_der_One GL (mkEnv ty [(62, conSem c_der_Take)] [] [] [0, 2, 3, 4, 5, 6, 20]) {} Tryd.f42.ntmps Tryd.f42.results.toList (bodyOf Tryd.f42) := by kernel_rfl
theorem k42 : t42 := by
  unfold t42
  rintro ⟨b, _⟩ hx hp
  have hp : b.length ≤ 1000000000 := hp
  try dsimp +instances only [dft_int, dft_sl, dft_str]
  simp only [true_and, and_true, eq_self_iff_true, implies_true, reduceCtorEq, false_implies, true_implies, decide_eq_true_eq, decide_eq_false_iff_not, beq_self_eq_true, Bool.not_eq_true', ne_eq, Decidable.not_not, List.nil_append, List.length_singleton, List.length_cons, List.length_nil, Nat.zero_add, Nat.add_zero, Nat.mul_one, and_self, beq_iff_eq, Bool.not_true, Bool.not_false, Bool.not_eq_false', Bool.cond_false_right, Bool.and_eq_true, imp_self, Bool.not_eq_true, Bool.cond_true_left, Bool.or_eq_true]
  refine ⟨by decide, hp, ?_⟩
  rintro ⟨⟨t, c⟩, n, e, _⟩ _ eT
  simp only at eT ⊢
  refine ⟨by decide, fun h => ?_, fun h => ?_⟩
  · rw [oneD, ← eT, if_pos h]
  · rw [oneD, ← eT, if_neg (fun hh => by simp only [Bool.and_eq_false_iff, decide_eq_false_iff_not] at h; exact h.elim (fun h => h hh.1) (fun h => h hh.2))]
theorem h42 : c_der_One.ok Tryd.prog GL 42 := con_ok (H := {}) (mkEnv_ok (gl := GL) (l := [(62, conSem c_der_Take)]) (q := []) (d := []) _ tyOk (by kernel_rfl) ⟨h62.call, trivial⟩ trivial trivial) (by kernel_rfl) (by kernel_rfl) (Eq.mp e42 k42)

def t64 : Prop :=
  ∀ (x : Int × Unit), Kd.wf (Kd.int IntKind.i64) x.fst ∧ True → True → (decide (x.fst < (0 : Int)) = false → True) ∧ (decide (x.fst < (0 : Int)) = false → (decide (x.fst < (0 : Int)) ==
  false) = true ∧ True) ∧ (decide (x.fst < (0 : Int)) = false → (decide (x.fst < (0 : Int)) == false) = true) ∧ ((bif decide (x.fst < (0 : Int)) then true else decide ((16777215 : Int) <
  x.fst)) = true → (0 : Int) = sizeD x.fst) ∧ ((bif decide (x.fst < (0 : Int)) then true else decide ((16777215 : Int) < x.fst)) = false → ((0 : Int) ≤ x.fst ∧ x.fst ≤ (16777215 : Int)) ∧ (∀
  (y : List Int × Unit), Kd.wf (Kd.sl (Kd.int IntKind.u8)) y.fst ∧ True → y.fst = lngD x.fst → IntKind.wrap IntKind.i64 ((1 : Int) + (↑(List.length y.fst) : Int)) = sizeD x.fst) ∧ True)
theorem e64 : t64 = Con.vc c_der_Size GL (mkEnv ty [(89, conSem c_der_length)] [] [] [0, 2, 8]) {} Tryd.f64.ntmps Tryd.f64.results.toList (bodyOf Tryd.f64) := by kernel_rfl
theorem k64 : t64 := by
  unfold t64
  rintro ⟨n, _⟩ hx hp
  try dsimp +instances only [dft_int, dft_sl, dft_str]
  simp only [true_and, and_true, eq_self_iff_true, implies_true, reduceCtorEq, false_implies, true_implies, decide_eq_true_eq, decide_eq_false_iff_not, beq_self_eq_true, Bool.not_eq_true', ne_eq, Decidable.not_not, List.nil_append, List.length_singleton, List.length_cons, List.length_nil, Nat.zero_add, Nat.add_zero, Nat.mul_one, and_self, beq_iff_eq, Bool.not_true, Bool.not_false, Bool.not_eq_false', Bool.cond_false_right, Bool.and_eq_true, imp_self, Bool.not_eq_true, Bool.cond_true_left, Bool.or_eq_true]
  refine ⟨fun h => by rw [sizeD, if_pos h], fun h => ?_⟩
  simp only [Bool.or_eq_false_iff, decide_eq_false_iff_not] at h
  refine ⟨⟨by omega, by omega⟩, ?_⟩
  rintro ⟨l, _⟩ _ el
  simp only at el ⊢
  have := lng_len (n := n)
  rw [el, wrapK _ (by omega) (by omega), size_of (by omega) (by omega)]
theorem h64 : c_der_Size.ok Tryd.prog GL 64 := con_ok (H := {}) (mkEnv_ok (gl := GL) (l := [(89, conSem c_der_length)]) (q := []) (d := []) _ tyOk (by kernel_rfl) ⟨h89.call, trivial⟩ trivial trivial) (by kernel_rfl) (by kernel_rfl) (Eq.mp e64 k64)

noncomputable def i88 : CallSem → CallSem := vcSeq (mkEnv ty [(62, conSem c_der_Take)] [] [] [0, 1, 3, 4, 5, 6, 10, 27]) {} Tryd.f88.ntmps Tryd.f88.results.toList (bodyOf Tryd.f88)
theorem i88_ok : SeqOk Tryd.prog GL 88 i88 := seq_ok {} (mkEnv_ok (gl := GL) (l := [(62, conSem c_der_Take)]) (q := []) (d := []) _ tyOk (by kernel_rfl) ⟨h62.call, trivial⟩ trivial trivial) (by kernel_rfl) (by kernel_rfl)

noncomputable def i63 : CallSem := vcFn (mkEnv ty [(87, conSem c_slices_Clone_byte_byte)] [] [] [0, 2, 3]) {} Tryd.f63.ntmps Tryd.f63.results.toList (bodyOf Tryd.f63)
theorem i63_ok : CallOk Tryd.prog GL 63 i63 := inl_ok {} (mkEnv_ok (gl := GL) (l := [(87, conSem c_slices_Clone_byte_byte)]) (q := []) (d := []) _ tyOk (by kernel_rfl) ⟨h87.call, trivial⟩ trivial trivial) (by kernel_rfl) (by kernel_rfl)

def t43 : Prop :=
  ∀ (x : List Int × Unit), Kd.wf (Kd.sl (Kd.int IntKind.u8)) x.fst ∧ True → lenB x.fst ≤ (1000000000 : Nat) → (1 : Nat) ≤ (65536 : Nat) ∧ (1 : Nat) ≤ (65536 : Nat) ∧ lenB x.fst ≤ (1000000000
  : Nat) ∧ (∀ (y : List Int × Unit), Kd.wf (Kd.sl (Kd.int IntKind.u8)) y.fst ∧ True → y.fst = x.fst → (1 : Nat) ≤ (65536 : Nat) ∧ ∃ (I : Int × Unit → Unit × (Int × Unit) × (List Int × Unit) ×
  List (Int × List Int) × Unit → Prop), ∃ (μ : Int × Unit → Unit × (Int × Unit) × (List Int × Unit) × List (Int × List Int) × Unit → Nat), ((0 : Int) = (0 : Int) ∧ (0 : Int) = (0 : Int) ∧
  Value.slice none (0 : Nat) (0 : Nat) = Value.slice none (0 : Nat) (0 : Nat) ∧ x.fst = x.fst ∧ I ((0 : Int), ()) ((), ((0 : Int), ()), (y.fst, ()), [], ())) ∧ ∀ (y : Int × Unit) (z : Unit ×
  (Int × Unit) × (List Int × Unit) × List (Int × List Int) × Unit), Kd.wf (Kd.int IntKind.i64) y.fst ∧ True → True ∧ (Kd.wf (Kd.int IntKind.i64) z.snd.fst.fst ∧ True) ∧ (Kd.wf (Kd.sl (Kd.int
  IntKind.u8)) z.snd.snd.fst.fst ∧ True) ∧ Kd.wf (Kd.sl (Kd.pair (Kd.int IntKind.i64) (Kd.sl (Kd.int IntKind.u8)))) z.snd.snd.snd.fst ∧ True → I y z → (decide (y.fst < (↑(List.length
  z.snd.snd.fst.fst) : Int)) = true → ((0 : Int) ≤ y.fst ∧ y.fst ≤ (↑(List.length z.snd.snd.fst.fst) : Int)) ∧ lenB (List.drop (Int.toNat y.fst) z.snd.snd.fst.fst) ≤ (1000000000 : Nat) ∧ (∀
  (y_1 : (Int × List Int) × Int × Int × Unit), Kd.wf (Kd.pair (Kd.int IntKind.i64) (Kd.sl (Kd.int IntKind.u8))) y_1.fst ∧ Kd.wf (Kd.int IntKind.i64) y_1.snd.fst ∧ Kd.wf (Kd.int IntKind.i64)
  y_1.snd.snd.fst ∧ True → (y_1.fst, y_1.snd.fst, y_1.snd.snd.fst) = takeD (List.drop (Int.toNat y.fst) z.snd.snd.fst.fst) → (2 : Nat) ≤ (65536 : Nat) ∧ (decide (y_1.snd.snd.fst ≠ (0 : Int))
  = false → True) ∧ (decide (y_1.snd.snd.fst ≠ (0 : Int)) = false → True) ∧ (decide (y_1.snd.snd.fst ≠ (0 : Int)) = false → True) ∧ (decide (y_1.snd.snd.fst ≠ (0 : Int)) = false → (decide
  (y_1.snd.snd.fst ≠ (0 : Int)) == false) = true ∧ (decide (y_1.snd.snd.fst ≠ (0 : Int)) == false) = true ∧ (decide (y_1.snd.snd.fst ≠ (0 : Int)) == false) = true ∧ (2 : Nat) ≤ (65536 : Nat)
  ∧ (0 : Nat) < (2 : Nat) ∧ (List.length z.snd.snd.snd.fst + List.length [(y_1.fst.fst, y_1.fst.snd)]) * (32 : Nat) ≤ (140737488355328 : Nat) ∧ List.length z.snd.snd.snd.fst + List.length
  [(y_1.fst.fst, y_1.fst.snd)] ≤ (9223372036854775807 : Nat) ∧ (((True ∧ (∀ (y_2 : Int × Unit), Kd.wf (Kd.int IntKind.i64) y_2.fst ∧ True → y_2.fst = sizeD (↑(List.length y_1.fst.snd) : Int)
  → ((((((0 : Int) = (0 : Int) ∧ (0 : Int) = (0 : Int) ∧ Value.slice none (0 : Nat) (0 : Nat) = Value.slice none (0 : Nat) (0 : Nat) ∧ x.fst = x.fst ∧ I (IntKind.wrap IntKind.i64 (y.fst +
  y_1.snd.fst), ()) ((), (IntKind.wrap IntKind.i64 (IntKind.wrap IntKind.i64 (y.fst + y_2.fst) + (↑(List.length y_1.fst.snd) : Int)), ()), (z.snd.snd.fst.fst, ()), z.snd.snd.snd.fst ++
  [(y_1.fst.fst, y_1.fst.snd)], ()) ∧ μ (IntKind.wrap IntKind.i64 (y.fst + y_1.snd.fst), ()) ((), (IntKind.wrap IntKind.i64 (IntKind.wrap IntKind.i64 (y.fst + y_2.fst) + (↑(List.length
  y_1.fst.snd) : Int)), ()), (z.snd.snd.fst.fst, ()), z.snd.snd.snd.fst ++ [(y_1.fst.fst, y_1.fst.snd)], ()) < μ y z) ∧ True) ∧ True) ∧ True) ∧ True) ∧ ((((((0 : Int) = (0 : Int) ∧ (0 : Int)
  = (0 : Int) ∧ Value.slice none (0 : Nat) (0 : Nat) = Value.slice none (0 : Nat) (0 : Nat) ∧ x.fst = x.fst ∧ I (IntKind.wrap IntKind.i64 (y.fst + y_1.snd.fst), ()) ((), (IntKind.wrap
  IntKind.i64 (IntKind.wrap IntKind.i64 (y.fst + y_2.fst) + (↑(List.length y_1.fst.snd) : Int)), ()), (z.snd.snd.fst.fst, ()), z.snd.snd.snd.fst ++ [(y_1.fst.fst, y_1.fst.snd)], ()) ∧ μ
  (IntKind.wrap IntKind.i64 (y.fst + y_1.snd.fst), ()) ((), (IntKind.wrap IntKind.i64 (IntKind.wrap IntKind.i64 (y.fst + y_2.fst) + (↑(List.length y_1.fst.snd) : Int)), ()),
  (z.snd.snd.fst.fst, ()), z.snd.snd.snd.fst ++ [(y_1.fst.fst, y_1.fst.snd)], ()) < μ y z) ∧ True) ∧ True) ∧ True) ∧ (((((0 : Int) = (0 : Int) ∧ (0 : Int) = (0 : Int) ∧ Value.slice none (0 :
  Nat) (0 : Nat) = Value.slice none (0 : Nat) (0 : Nat) ∧ x.fst = x.fst ∧ I (IntKind.wrap IntKind.i64 (y.fst + y_1.snd.fst), ()) ((), (IntKind.wrap IntKind.i64 (IntKind.wrap IntKind.i64
  (y.fst + y_2.fst) + (↑(List.length y_1.fst.snd) : Int)), ()), (z.snd.snd.fst.fst, ()), z.snd.snd.snd.fst ++ [(y_1.fst.fst, y_1.fst.snd)], ()) ∧ μ (IntKind.wrap IntKind.i64 (y.fst +
  y_1.snd.fst), ()) ((), (IntKind.wrap IntKind.i64 (IntKind.wrap IntKind.i64 (y.fst + y_2.fst) + (↑(List.length y_1.fst.snd) : Int)), ()), (z.snd.snd.fst.fst, ()), z.snd.snd.snd.fst ++
  [(y_1.fst.fst, y_1.fst.snd)], ()) < μ y z) ∧ True) ∧ True) ∧ True) ∧ True) ∧ True) ∧ True) ∧ ((True ∧ (∀ (y_2 : Int × Unit), Kd.wf (Kd.int IntKind.i64) y_2.fst ∧ True → y_2.fst = sizeD
  (↑(List.length y_1.fst.snd) : Int) → (((((0 : Int) = (0 : Int) ∧ (0 : Int) = (0 : Int) ∧ Value.slice none (0 : Nat) (0 : Nat) = Value.slice none (0 : Nat) (0 : Nat) ∧ x.fst = x.fst ∧ I
  (IntKind.wrap IntKind.i64 (y.fst + y_1.snd.fst), ()) ((), (IntKind.wrap IntKind.i64 (IntKind.wrap IntKind.i64 (y.fst + y_2.fst) + (↑(List.length y_1.fst.snd) : Int)), ()),
  (z.snd.snd.fst.fst, ()), z.snd.snd.snd.fst ++ [(y_1.fst.fst, y_1.fst.snd)], ()) ∧ μ (IntKind.wrap IntKind.i64 (y.fst + y_1.snd.fst), ()) ((), (IntKind.wrap IntKind.i64 (IntKind.wrap
  IntKind.i64 (y.fst + y_2.fst) + (↑(List.length y_1.fst.snd) : Int)), ()), (z.snd.snd.fst.fst, ()), z.snd.snd.snd.fst ++ [(y_1.fst.fst, y_1.fst.snd)], ()) < μ y z) ∧ True) ∧ True) ∧ True) ∧
  (((((0 : Int) = (0 : Int) ∧ (0 : Int) = (0 : Int) ∧ Value.slice none (0 : Nat) (0 : Nat) = Value.slice none (0 : Nat) (0 : Nat) ∧ x.fst = x.fst ∧ I (IntKind.wrap IntKind.i64 (y.fst +
  y_1.snd.fst), ()) ((), (IntKind.wrap IntKind.i64 (IntKind.wrap IntKind.i64 (y.fst + y_2.fst) + (↑(List.length y_1.fst.snd) : Int)), ()), (z.snd.snd.fst.fst, ()), z.snd.snd.snd.fst ++
  [(y_1.fst.fst, y_1.fst.snd)], ()) ∧ μ (IntKind.wrap IntKind.i64 (y.fst + y_1.snd.fst), ()) ((), (IntKind.wrap IntKind.i64 (IntKind.wrap IntKind.i64 (y.fst + y_2.fst) + (↑(List.length
  y_1.fst.snd) : Int)), ()), (z.snd.snd.fst.fst, ()), z.snd.snd.snd.fst ++ [(y_1.fst.fst, y_1.fst.snd)], ()) < μ y z) ∧ True) ∧ True) ∧ True) ∧ True) ∧ True) ∧ ((True ∧ (∀ (y_2 : Int × Unit),
  Kd.wf (Kd.int IntKind.i64) y_2.fst ∧ True → y_2.fst = sizeD (↑(List.length y_1.fst.snd) : Int) → ((((0 : Int) = (0 : Int) ∧ (0 : Int) = (0 : Int) ∧ Value.slice none (0 : Nat) (0 : Nat) =
  Value.slice none (0 : Nat) (0 : Nat) ∧ x.fst = x.fst ∧ I (IntKind.wrap IntKind.i64 (y.fst + y_1.snd.fst), ()) ((), (IntKind.wrap IntKind.i64 (IntKind.wrap IntKind.i64 (y.fst + y_2.fst) +
  (↑(List.length y_1.fst.snd) : Int)), ()), (z.snd.snd.fst.fst, ()), z.snd.snd.snd.fst ++ [(y_1.fst.fst, y_1.fst.snd)], ()) ∧ μ (IntKind.wrap IntKind.i64 (y.fst + y_1.snd.fst), ()) ((),
  (IntKind.wrap IntKind.i64 (IntKind.wrap IntKind.i64 (y.fst + y_2.fst) + (↑(List.length y_1.fst.snd) : Int)), ()), (z.snd.snd.fst.fst, ()), z.snd.snd.snd.fst ++ [(y_1.fst.fst, y_1.fst.snd)],
  ()) < μ y z) ∧ True) ∧ True) ∧ True) ∧ True) ∧ True) ∧ True) ∧ True) ∧ (((True ∧ (∀ (y_2 : Int × Unit), Kd.wf (Kd.int IntKind.i64) y_2.fst ∧ True → y_2.fst = sizeD (↑(List.length
  y_1.fst.snd) : Int) → (((((0 : Int) = (0 : Int) ∧ (0 : Int) = (0 : Int) ∧ Value.slice none (0 : Nat) (0 : Nat) = Value.slice none (0 : Nat) (0 : Nat) ∧ x.fst = x.fst ∧ I (IntKind.wrap
  IntKind.i64 (y.fst + y_1.snd.fst), ()) ((), (IntKind.wrap IntKind.i64 (IntKind.wrap IntKind.i64 (y.fst + y_2.fst) + (↑(List.length y_1.fst.snd) : Int)), ()), (z.snd.snd.fst.fst, ()),
  z.snd.snd.snd.fst ++ [(y_1.fst.fst, y_1.fst.snd)], ()) ∧ μ (IntKind.wrap IntKind.i64 (y.fst + y_1.snd.fst), ()) ((), (IntKind.wrap IntKind.i64 (IntKind.wrap IntKind.i64 (y.fst + y_2.fst) +
  (↑(List.length y_1.fst.snd) : Int)), ()), (z.snd.snd.fst.fst, ()), z.snd.snd.snd.fst ++ [(y_1.fst.fst, y_1.fst.snd)], ()) < μ y z) ∧ True) ∧ True) ∧ True) ∧ (((((0 : Int) = (0 : Int) ∧ (0 :
  Int) = (0 : Int) ∧ Value.slice none (0 : Nat) (0 : Nat) = Value.slice none (0 : Nat) (0 : Nat) ∧ x.fst = x.fst ∧ I (IntKind.wrap IntKind.i64 (y.fst + y_1.snd.fst), ()) ((), (IntKind.wrap
  IntKind.i64 (IntKind.wrap IntKind.i64 (y.fst + y_2.fst) + (↑(List.length y_1.fst.snd) : Int)), ()), (z.snd.snd.fst.fst, ()), z.snd.snd.snd.fst ++ [(y_1.fst.fst, y_1.fst.snd)], ()) ∧ μ
  (IntKind.wrap IntKind.i64 (y.fst + y_1.snd.fst), ()) ((), (IntKind.wrap IntKind.i64 (IntKind.wrap IntKind.i64 (y.fst + y_2.fst) + (↑(List.length y_1.fst.snd) : Int)), ()),
  (z.snd.snd.fst.fst, ()), z.snd.snd.snd.fst ++ [(y_1.fst.fst, y_1.fst.snd)], ()) < μ y z) ∧ True) ∧ True) ∧ True) ∧ True) ∧ True) ∧ ((True ∧ (∀ (y_2 : Int × Unit), Kd.wf (Kd.int IntKind.i64)
  y_2.fst ∧ True → y_2.fst = sizeD (↑(List.length y_1.fst.snd) : Int) → ((((0 : Int) = (0 : Int) ∧ (0 : Int) = (0 : Int) ∧ Value.slice none (0 : Nat) (0 : Nat) = Value.slice none (0 : Nat) (0
  : Nat) ∧ x.fst = x.fst ∧ I (IntKind.wrap IntKind.i64 (y.fst + y_1.snd.fst), ()) ((), (IntKind.wrap IntKind.i64 (IntKind.wrap IntKind.i64 (y.fst + y_2.fst) + (↑(List.length y_1.fst.snd) :
  Int)), ()), (z.snd.snd.fst.fst, ()), z.snd.snd.snd.fst ++ [(y_1.fst.fst, y_1.fst.snd)], ()) ∧ μ (IntKind.wrap IntKind.i64 (y.fst + y_1.snd.fst), ()) ((), (IntKind.wrap IntKind.i64
  (IntKind.wrap IntKind.i64 (y.fst + y_2.fst) + (↑(List.length y_1.fst.snd) : Int)), ()), (z.snd.snd.fst.fst, ()), z.snd.snd.snd.fst ++ [(y_1.fst.fst, y_1.fst.snd)], ()) < μ y z) ∧ True) ∧
  True) ∧ True) ∧ True) ∧ True) ∧ True) ∧ (((True ∧ (∀ (y_2 : Int × Unit), Kd.wf (Kd.int IntKind.i64) y_2.fst ∧ True → y_2.fst = sizeD (↑(List.length y_1.fst.snd) : Int) → ((((0 : Int) = (0 :
  Int) ∧ (0 : Int) = (0 : Int) ∧ Value.slice none (0 : Nat) (0 : Nat) = Value.slice none (0 : Nat) (0 : Nat) ∧ x.fst = x.fst ∧ I (IntKind.wrap IntKind.i64 (y.fst + y_1.snd.fst), ()) ((),
  (IntKind.wrap IntKind.i64 (IntKind.wrap IntKind.i64 (y.fst + y_2.fst) + (↑(List.length y_1.fst.snd) : Int)), ()), (z.snd.snd.fst.fst, ()), z.snd.snd.snd.fst ++ [(y_1.fst.fst, y_1.fst.snd)],
  ()) ∧ μ (IntKind.wrap IntKind.i64 (y.fst + y_1.snd.fst), ()) ((), (IntKind.wrap IntKind.i64 (IntKind.wrap IntKind.i64 (y.fst + y_2.fst) + (↑(List.length y_1.fst.snd) : Int)), ()),
  (z.snd.snd.fst.fst, ()), z.snd.snd.snd.fst ++ [(y_1.fst.fst, y_1.fst.snd)], ()) < μ y z) ∧ True) ∧ True) ∧ True) ∧ True) ∧ True) ∧ True) ∧ True) ∧ True) ∧ ((((True ∧ (∀ (y_2 : Int × Unit),
  Kd.wf (Kd.int IntKind.i64) y_2.fst ∧ True → y_2.fst = sizeD (↑(List.length y_1.fst.snd) : Int) → (((((0 : Int) = (0 : Int) ∧ (0 : Int) = (0 : Int) ∧ Value.slice none (0 : Nat) (0 : Nat) =
  Value.slice none (0 : Nat) (0 : Nat) ∧ x.fst = x.fst ∧ I (IntKind.wrap IntKind.i64 (y.fst + y_1.snd.fst), ()) ((), (IntKind.wrap IntKind.i64 (IntKind.wrap IntKind.i64 (y.fst + y_2.fst) +
  (↑(List.length y_1.fst.snd) : Int)), ()), (z.snd.snd.fst.fst, ()), z.snd.snd.snd.fst ++ [(y_1.fst.fst, y_1.fst.snd)], ()) ∧ μ (IntKind.wrap IntKind.i64 (y.fst + y_1.snd.fst), ()) ((),
  (IntKind.wrap IntKind.i64 (IntKind.wrap IntKind.i64 (y.fst + y_2.fst) + (↑(List.length y_1.fst.snd) : Int)), ()), (z.snd.snd.fst.fst, ()), z.snd.snd.snd.fst ++ [(y_1.fst.fst, y_1.fst.snd)],
  ()) < μ y z) ∧ True) ∧ True) ∧ True) ∧ (((((0 : Int) = (0 : Int) ∧ (0 : Int) = (0 : Int) ∧ Value.slice none (0 : Nat) (0 : Nat) = Value.slice none (0 : Nat) (0 : Nat) ∧ x.fst = x.fst ∧ I
  (IntKind.wrap IntKind.i64 (y.fst + y_1.snd.fst), ()) ((), (IntKind.wrap IntKind.i64 (IntKind.wrap IntKind.i64 (y.fst + y_2.fst) + (↑(List.length y_1.fst.snd) : Int)), ()),
  (z.snd.snd.fst.fst, ()), z.snd.snd.snd.fst ++ [(y_1.fst.fst, y_1.fst.snd)], ()) ∧ μ (IntKind.wrap IntKind.i64 (y.fst + y_1.snd.fst), ()) ((), (IntKind.wrap IntKind.i64 (IntKind.wrap
  IntKind.i64 (y.fst + y_2.fst) + (↑(List.length y_1.fst.snd) : Int)), ()), (z.snd.snd.fst.fst, ()), z.snd.snd.snd.fst ++ [(y_1.fst.fst, y_1.fst.snd)], ()) < μ y z) ∧ True) ∧ True) ∧ True) ∧
  True) ∧ True) ∧ ((True ∧ (∀ (y_2 : Int × Unit), Kd.wf (Kd.int IntKind.i64) y_2.fst ∧ True → y_2.fst = sizeD (↑(List.length y_1.fst.snd) : Int) → ((((0 : Int) = (0 : Int) ∧ (0 : Int) = (0 :
  Int) ∧ Value.slice none (0 : Nat) (0 : Nat) = Value.slice none (0 : Nat) (0 : Nat) ∧ x.fst = x.fst ∧ I (IntKind.wrap IntKind.i64 (y.fst + y_1.snd.fst), ()) ((), (IntKind.wrap IntKind.i64
  (IntKind.wrap IntKind.i64 (y.fst + y_2.fst) + (↑(List.length y_1.fst.snd) : Int)), ()), (z.snd.snd.fst.fst, ()), z.snd.snd.snd.fst ++ [(y_1.fst.fst, y_1.fst.snd)], ()) ∧ μ (IntKind.wrap
  IntKind.i64 (y.fst + y_1.snd.fst), ()) ((), (IntKind.wrap IntKind.i64 (IntKind.wrap IntKind.i64 (y.fst + y_2.fst) + (↑(List.length y_1.fst.snd) : Int)), ()), (z.snd.snd.fst.fst, ()),
  z.snd.snd.snd.fst ++ [(y_1.fst.fst, y_1.fst.snd)], ()) < μ y z) ∧ True) ∧ True) ∧ True) ∧ True) ∧ True) ∧ True) ∧ (((True ∧ (∀ (y_2 : Int × Unit), Kd.wf (Kd.int IntKind.i64) y_2.fst ∧ True
  → y_2.fst = sizeD (↑(List.length y_1.fst.snd) : Int) → ((((0 : Int) = (0 : Int) ∧ (0 : Int) = (0 : Int) ∧ Value.slice none (0 : Nat) (0 : Nat) = Value.slice none (0 : Nat) (0 : Nat) ∧ x.fst
  = x.fst ∧ I (IntKind.wrap IntKind.i64 (y.fst + y_1.snd.fst), ()) ((), (IntKind.wrap IntKind.i64 (IntKind.wrap IntKind.i64 (y.fst + y_2.fst) + (↑(List.length y_1.fst.snd) : Int)), ()),
  (z.snd.snd.fst.fst, ()), z.snd.snd.snd.fst ++ [(y_1.fst.fst, y_1.fst.snd)], ()) ∧ μ (IntKind.wrap IntKind.i64 (y.fst + y_1.snd.fst), ()) ((), (IntKind.wrap IntKind.i64 (IntKind.wrap
  IntKind.i64 (y.fst + y_2.fst) + (↑(List.length y_1.fst.snd) : Int)), ()), (z.snd.snd.fst.fst, ()), z.snd.snd.snd.fst ++ [(y_1.fst.fst, y_1.fst.snd)], ()) < μ y z) ∧ True) ∧ True) ∧ True) ∧
  True) ∧ True) ∧ True) ∧ True) ∧ ((((True ∧ (∀ (y_2 : Int × Unit), Kd.wf (Kd.int IntKind.i64) y_2.fst ∧ True → y_2.fst = sizeD (↑(List.length y_1.fst.snd) : Int) → ((((0 : Int) = (0 : Int) ∧
  (0 : Int) = (0 : Int) ∧ Value.slice none (0 : Nat) (0 : Nat) = Value.slice none (0 : Nat) (0 : Nat) ∧ x.fst = x.fst ∧ I (IntKind.wrap IntKind.i64 (y.fst + y_1.snd.fst), ()) ((),
  (IntKind.wrap IntKind.i64 (IntKind.wrap IntKind.i64 (y.fst + y_2.fst) + (↑(List.length y_1.fst.snd) : Int)), ()), (z.snd.snd.fst.fst, ()), z.snd.snd.snd.fst ++ [(y_1.fst.fst, y_1.fst.snd)],
  ()) ∧ μ (IntKind.wrap IntKind.i64 (y.fst + y_1.snd.fst), ()) ((), (IntKind.wrap IntKind.i64 (IntKind.wrap IntKind.i64 (y.fst + y_2.fst) + (↑(List.length y_1.fst.snd) : Int)), ()),
  (z.snd.snd.fst.fst, ()), z.snd.snd.snd.fst ++ [(y_1.fst.fst, y_1.fst.snd)], ()) < μ y z) ∧ True) ∧ True) ∧ True) ∧ True) ∧ True) ∧ True) ∧ True) ∧ True) ∧ True) ∧ (decide (y_1.snd.snd.fst ≠
  (0 : Int)) = !false → (decide (z.snd.fst.fst = (↑(List.length x.fst) : Int)) = true → (z.snd.snd.snd.fst, z.snd.fst.fst, (0 : Int)) = allD x.fst) ∧ (decide (z.snd.fst.fst = (↑(List.length
  x.fst) : Int)) = false → ((0 : Int) ≤ z.snd.fst.fst ∧ z.snd.fst.fst ≤ (↑(List.length x.fst) : Int)) ∧ lenB (List.drop (Int.toNat z.snd.fst.fst) x.fst) ≤ (1000000000 : Nat) ∧ (∀ (y : (Int ×
  List Int) × Int × Int × Unit), Kd.wf (Kd.pair (Kd.int IntKind.i64) (Kd.sl (Kd.int IntKind.u8))) y.fst ∧ Kd.wf (Kd.int IntKind.i64) y.snd.fst ∧ Kd.wf (Kd.int IntKind.i64) y.snd.snd.fst ∧
  True → (y.fst, y.snd.fst, y.snd.snd.fst) = takeD (List.drop (Int.toNat z.snd.fst.fst) x.fst) → (2 : Nat) ≤ (65536 : Nat) ∧ ([], z.snd.fst.fst, y.snd.snd.fst) = allD x.fst) ∧ True))) ∧ True)
  ∧ (decide (y.fst < (↑(List.length z.snd.snd.fst.fst) : Int)) = false → (decide (z.snd.fst.fst = (↑(List.length x.fst) : Int)) = true → (z.snd.snd.snd.fst, z.snd.fst.fst, (0 : Int)) = allD
  x.fst) ∧ (decide (z.snd.fst.fst = (↑(List.length x.fst) : Int)) = false → ((0 : Int) ≤ z.snd.fst.fst ∧ z.snd.fst.fst ≤ (↑(List.length x.fst) : Int)) ∧ lenB (List.drop (Int.toNat
  z.snd.fst.fst) x.fst) ≤ (1000000000 : Nat) ∧ (∀ (y : (Int × List Int) × Int × Int × Unit), Kd.wf (Kd.pair (Kd.int IntKind.i64) (Kd.sl (Kd.int IntKind.u8))) y.fst ∧ Kd.wf (Kd.int
  IntKind.i64) y.snd.fst ∧ Kd.wf (Kd.int IntKind.i64) y.snd.snd.fst ∧ True → (y.fst, y.snd.fst, y.snd.snd.fst) = takeD (List.drop (Int.toNat z.snd.fst.fst) x.fst) → (2 : Nat) ≤ (65536 : Nat)
  ∧ ([], z.snd.fst.fst, y.snd.snd.fst) = allD x.fst) ∧ True))) ∧ True
theorem e43 : t43 = Con.vc c_der_All GL (mkEnv ty [(63, i63), (62, conSem c_der_Take), (64, conSem c_der_Size)] [(88, i88)] [] [0, 2, 3, 4, 5, 6, 7, 8, 11, 13, 14, 15, 33]) {} Tryd.f43.ntmps Tryd.f43.results.toList (bodyOf Tryd.f43) := by kernel_rfl
theorem k43 : t43 := by
  unfold t43
  rintro ⟨b, _⟩ hx hp
  have hp : b.length ≤ 1000000000 := hp
  have hb : Bys b := sl_bys hx.1
  try dsimp +instances only [dft_int, dft_sl, dft_str]
  simp only [true_and, and_true, eq_self_iff_true, implies_true, reduceCtorEq, false_implies, true_implies, decide_eq_true_eq, decide_eq_false_iff_not, beq_self_eq_true, Bool.not_eq_true', ne_eq, Decidable.not_not, List.nil_append, List.length_singleton, List.length_cons, List.length_nil, Nat.zero_add, Nat.add_zero, Nat.mul_one, and_self, beq_iff_eq, Bool.not_true, Bool.not_false, Bool.not_eq_false', Bool.cond_false_right, Bool.and_eq_true, imp_self, Bool.not_eq_true, Bool.cond_true_left, Bool.or_eq_true]
  refine ⟨by decide, by decide, hp, ?_⟩
  rintro ⟨b1, _⟩ _ eb
  have eb : b1 = b := eb
  subst eb
  refine ⟨by decide, fun y z => z.2.2.1.1 = b1 ∧ 0 ≤ y.1 ∧ y.1 ≤ b1.length ∧ z.2.1.1 = y.1 ∧ (z.2.2.2.1 : List EltT).length ≤ y.1 ∧ ∃ (k : Nat) (pre : List (Int × EltT)), (b1.length : Int) - y.1 ≤ k ∧ rowD b1 = (pre ++ (rowR b1 k y.1).1, (rowR b1 k y.1).2) ∧ z.2.2.2.1 = pre.map (·.2), fun y _ => ((b1.length : Int) - y.1).toNat, ⟨rfl, Int.le_refl 0, by simp only; omega, rfl, by simp, b1.length, [], by simp only; omega, rfl, rfl⟩, ?_⟩
  rintro ⟨i, _⟩ ⟨_, ⟨en, _⟩, ⟨own, _⟩, out, _⟩ _ _ ⟨eo, i0, i1, ee, hl, k, pre, hk, hr, eout⟩
  simp only at eo i0 i1 ee hl hk hr eout ⊢
  subst eo ee
  refine ⟨fun hlt => ⟨⟨i0, by omega⟩, by rw [lenB, List.length_drop]; omega, ?_⟩, fun hge => ⟨fun h => ?_, fun h => absurd (by omega) h⟩⟩
  · rintro ⟨x, n, e, _⟩ _ eT
    simp only at eT ⊢
    obtain ⟨m, rfl⟩ : ∃ m, k = m + 1 := ⟨k - 1, by omega⟩
    have hbd : Bys (own.drop en.toNat) := bys_drop hb _
    refine ⟨by decide, fun he => ?_, fun he => ⟨fun h => by omega, fun h => ⟨⟨i0, i1⟩, by rw [lenB, List.length_drop]; omega, ?_⟩⟩⟩
    · subst he
      have ok : (takeD (own.drop en.toNat)).2.2 = 0 := by rw [← eT]
      have h1 := take_inv hbd ok
      have h2 := take_ok hbd ok
      rw [row_step own m en hlt ok] at hr
      rw [← eT] at h1 h2 hr
      simp only at h1 h2 hr
      rw [List.length_drop] at h2
      have hpl := put_len x
      have hll := lng_len (n := (x.2.length : Int))
      refine ⟨by trivial, by trivial, by trivial, by decide, by decide, by omega, by omega, ?_⟩
      rintro ⟨z, _⟩ _ ez
      simp only at ez ⊢
      rw [size_of (by omega) (by omega)] at ez
      rw [wrapK (en + n) (by omega) (by omega), wrapK (en + z) (by omega) (by omega), wrapK (en + z + (x.2.length : Int)) (by omega) (by omega)]
      refine ⟨⟨by trivial, by omega, by omega, by omega, by rw [List.length_append, List.length_singleton]; omega, m, pre ++ [(en, x)], by omega, ?_, ?_⟩, by omega⟩
      · rw [hr]; simp
      · rw [eout]; simp
    · rintro ⟨x2, n2, e2, _⟩ _ eT2
      simp only at eT2 ⊢
      have he2 : e2 = e := by
        have := eT.trans eT2.symm
        simp only [Prod.mk.injEq] at this
        exact this.2.2.symm
      have bad : (takeD (own.drop en.toNat)).2.2 ≠ 0 := by rw [← eT]; exact he
      rw [row_bad own m en hlt bad, ← eT] at hr
      refine ⟨by decide, ?_⟩
      rw [allD, hr, he2]
      simp only
      rw [if_pos he]
  · rw [row_end own k en hge] at hr
    rw [allD, hr]
    simp only
    rw [if_neg (by simp), List.append_nil, eout]
theorem h43 : c_der_All.ok Tryd.prog GL 43 := con_ok (H := {}) (mkEnv_ok (gl := GL) (l := [(63, i63), (62, conSem c_der_Take), (64, conSem c_der_Size)]) (q := [(88, i88)]) (d := []) _ tyOk (by kernel_rfl) ⟨i63_ok, h62.call, h64.call, trivial⟩ ⟨i88_ok, trivial⟩ trivial) (by kernel_rfl) (by kernel_rfl) (Eq.mp e43 k43)

end Go.Proofs.YtcaekpbmmbfeiaaDoor
end
section
/- Contracts. -/
namespace Go.Proofs.YtcaekpbmmbfeiaaDoor
open Go Go.Vc Go.Pl Go.Proofs
def c_r01_IsTag : Con := { args := [.dat I64], res := [.dat .bool], pre := fun _ => True, post := fun x y => y.1 = isTagD x.1 }
def c_r01_Length : Con := { args := [.dat I64], res := [.own 5 U8], pre := fun x => 0 ≤ x.1 ∧ x.1 ≤ 16777215, post := fun x y => y.1 = lngD x.1 }
def c_r01_Bytes : Con := { args := [.dat ET], res := [.own 5 U8], pre := fun x => lenB x.1.2 ≤ 16777215 ∧ 0 ≤ x.1.1 ∧ x.1.1 ≤ 255, post := fun x y => y.1 = putB x.1 }
def c_r01_Take : Con := { args := [.dat BY], res := [.dat ET, .dat I64, .dat I64], pre := fun x => lenB x.1 ≤ 1000000000, post := fun x y => (y.1, y.2.1, y.2.2.1) = takeD x.1 }
def c_r01_One : Con := { args := [.dat BY], res := [.dat ET, .dat I64], pre := fun x => lenB x.1 ≤ 1000000000, post := fun x y => (y.1, y.2.1) = oneD x.1 }
def c_r01_Row : Con := { args := [.dat BY], res := [.own 76 ET, .own 3 I64, .dat I64, .dat I64], pre := fun x => lenB x.1 ≤ 1000000000, post := fun x y => y.1 = (rowD x.1).1.map (·.2) ∧ y.2.1 = (rowD x.1).1.map (·.1) ∧ (y.2.2.1, y.2.2.2.1) = (rowD x.1).2 }
def c_r01_All : Con := { args := [.dat BY], res := [.own 76 ET, .dat I64, .dat I64], pre := fun x => lenB x.1 ≤ 1000000000, post := fun x y => (y.1, y.2.1, y.2.2.1) = allD x.1 }

end Go.Proofs.YtcaekpbmmbfeiaaDoor
end
section
/- Walks. -/
namespace Go.Proofs.YtcaekpbmmbfeiaaDoor
open Go Go.Vc Go.Pl Go.Proofs
set_option linter.unusedVariables false
set_option linter.unusedSimpArgs false
set_option maxRecDepth 20000
end Go.Proofs.YtcaekpbmmbfeiaaDoor
end
section
/- Contracts. -/
namespace Go.Proofs.YtcaekpbmmbfeiaaDoor
open Go Go.Vc Go.Pl Go.Proofs
def c_oid_May : Con := { args := [.dat (.sl I64)], res := [.dat .bool], pre := fun _ => True, post := fun x y => y.1 = mayO x.1 }
def c_r03_May : Con := { args := [.dat (.sl I64)], res := [.dat .bool], pre := fun _ => True, post := fun x y => y.1 = mayO x.1 }
def c_oid_number : Con := { args := [.own 5 U8, .dat I64], res := [.own 5 U8], pre := fun x => lenI x.1 ≤ 1000 ∧ 0 ≤ x.2.1 ∧ x.2.1 ≤ 2147483647, post := fun x y => y.1 = x.1 ++ numO x.2.1 }
def c_r03_Number : Con := { args := [.dat I64], res := [.own 5 U8], pre := fun x => 0 ≤ x.1 ∧ x.1 ≤ 2147483647, post := fun x y => y.1 = numO x.1 }
def c_oid_Encode : Con := { args := [.dat (.sl I64)], res := [.own 5 U8, .dat I64], pre := fun _ => True, post := fun x y => (y.1, y.2.1) = EncO x.1 }
def c_r03_Encode : Con := { args := [.dat (.sl I64)], res := [.own 5 U8, .dat I64], pre := fun _ => True, post := fun x y => (y.1, y.2.1) = EncO x.1 }

end Go.Proofs.YtcaekpbmmbfeiaaDoor
end
section
/- Walks. -/
namespace Go.Proofs.YtcaekpbmmbfeiaaDoor
open Go Go.Vc Go.Pl Go.Proofs
set_option linter.unusedVariables false
set_option linter.unusedSimpArgs false
def t70 : Prop :=
  ∀ (x : List Int × Unit), Kd.wf (Kd.sl (Kd.int IntKind.i64)) x.fst ∧ True → True → (decide ((↑(List.length x.fst) : Int) < (2 : Int)) = false → True) ∧ (decide ((↑(List.length x.fst) : Int)
  < (2 : Int)) = false → (decide ((↑(List.length x.fst) : Int) < (2 : Int)) == false) = true ∧ True) ∧ (decide ((↑(List.length x.fst) : Int) < (2 : Int)) = false → (decide ((↑(List.length
  x.fst) : Int) < (2 : Int)) == false) = true ∧ True) ∧ (decide ((↑(List.length x.fst) : Int) < (2 : Int)) = false → (decide ((↑(List.length x.fst) : Int) < (2 : Int)) == false) = true) ∧
  ((bif decide ((↑(List.length x.fst) : Int) < (2 : Int)) then true else decide ((20 : Int) < (↑(List.length x.fst) : Int))) = true → false = mayO x.fst) ∧ ((bif decide ((↑(List.length x.fst)
  : Int) < (2 : Int)) then true else decide ((20 : Int) < (↑(List.length x.fst) : Int))) = false → ∃ (I : Int × Bool × Unit → Unit → Prop), ∃ (μ : Int × Bool × Unit → Unit → Nat),
  ((↑(List.length x.fst) : Int) = (↑(List.length x.fst) : Int) ∧ x.fst = x.fst ∧ Value.bool false = Value.bool false ∧ x.fst = x.fst ∧ I ((0 : Int), false, ()) ()) ∧ ∀ (y : Int × Bool × Unit)
  (z : Unit), Kd.wf (Kd.int IntKind.i64) y.fst ∧ Kd.wf Kd.bool y.snd.fst ∧ True → True → I y z → (decide (y.fst < (↑(List.length x.fst) : Int)) = true → ((0 : Int) ≤ y.fst ∧ y.fst <
  (↑(List.length x.fst) : Int)) ∧ (decide (List.getD x.fst (Int.toNat y.fst) (Kd.dft (Kd.int IntKind.i64)) < (0 : Int)) = false → True) ∧ (decide (List.getD x.fst (Int.toNat y.fst) (Kd.dft
  (Kd.int IntKind.i64)) < (0 : Int)) = false → (decide (List.getD x.fst (Int.toNat y.fst) (Kd.dft (Kd.int IntKind.i64)) < (0 : Int)) == false) = true ∧ True) ∧ (decide (List.getD x.fst
  (Int.toNat y.fst) (Kd.dft (Kd.int IntKind.i64)) < (0 : Int)) = false → (decide (List.getD x.fst (Int.toNat y.fst) (Kd.dft (Kd.int IntKind.i64)) < (0 : Int)) == false) = true) ∧ ((bif decide
  (List.getD x.fst (Int.toNat y.fst) (Kd.dft (Kd.int IntKind.i64)) < (0 : Int)) then true else decide ((2147483647 : Int) < List.getD x.fst (Int.toNat y.fst) (Kd.dft (Kd.int IntKind.i64)))) =
  true → false = mayO x.fst) ∧ ((bif decide (List.getD x.fst (Int.toNat y.fst) (Kd.dft (Kd.int IntKind.i64)) < (0 : Int)) then true else decide ((2147483647 : Int) < List.getD x.fst
  (Int.toNat y.fst) (Kd.dft (Kd.int IntKind.i64)))) = false → (↑(List.length x.fst) : Int) = (↑(List.length x.fst) : Int) ∧ x.fst = x.fst ∧ Value.bool false = Value.bool false ∧ x.fst = x.fst
  ∧ I (IntKind.wrap IntKind.i64 (y.fst + (1 : Int)), y.snd.fst, ()) () ∧ μ (IntKind.wrap IntKind.i64 (y.fst + (1 : Int)), y.snd.fst, ()) () < μ y z)) ∧ (decide (y.fst < (↑(List.length x.fst)
  : Int)) = false → ((0 : Int) ≤ (0 : Int) ∧ (0 : Int) < (↑(List.length x.fst) : Int)) ∧ (decide (List.getD x.fst (0 : Nat) (Kd.dft (Kd.int IntKind.i64)) = (0 : Int)) = true → ((0 : Int) ≤ (1
  : Int) ∧ (1 : Int) < (↑(List.length x.fst) : Int)) ∧ decide (List.getD x.fst (1 : Nat) (Kd.dft (Kd.int IntKind.i64)) < (40 : Int)) = mayO x.fst) ∧ (decide (List.getD x.fst (0 : Nat) (Kd.dft
  (Kd.int IntKind.i64)) = (0 : Int)) = false → (decide (List.getD x.fst (0 : Nat) (Kd.dft (Kd.int IntKind.i64)) = (1 : Int)) = true → ((0 : Int) ≤ (1 : Int) ∧ (1 : Int) < (↑(List.length
  x.fst) : Int)) ∧ decide (List.getD x.fst (1 : Nat) (Kd.dft (Kd.int IntKind.i64)) < (40 : Int)) = mayO x.fst) ∧ (decide (List.getD x.fst (0 : Nat) (Kd.dft (Kd.int IntKind.i64)) = (1 : Int))
  = false → (decide (List.getD x.fst (0 : Nat) (Kd.dft (Kd.int IntKind.i64)) = (2 : Int)) = true → ((0 : Int) ≤ (1 : Int) ∧ (1 : Int) < (↑(List.length x.fst) : Int)) ∧ decide (List.getD x.fst
  (1 : Nat) (Kd.dft (Kd.int IntKind.i64)) ≤ (2147483567 : Int)) = mayO x.fst) ∧ (decide (List.getD x.fst (0 : Nat) (Kd.dft (Kd.int IntKind.i64)) = (2 : Int)) = false → false = mayO x.fst)))))
theorem e70 : t70 = Con.vc c_oid_May GL (mkEnv ty [] [] [] [0, 2, 4, 12, 13, 14, 15, 16, 24, 28, 29, 36]) {} Tryd.f70.ntmps Tryd.f70.results.toList (bodyOf Tryd.f70) := by kernel_rfl
theorem k70 : t70 := by
  unfold t70
  rintro ⟨l, _⟩ hx hp
  try dsimp +instances only [dft_int, dft_sl, dft_str]
  simp only [true_and, and_true, eq_self_iff_true, implies_true, reduceCtorEq, false_implies, true_implies, decide_eq_true_eq, decide_eq_false_iff_not, beq_self_eq_true, Bool.not_eq_true', ne_eq, Decidable.not_not, List.nil_append, List.length_singleton, List.length_cons, List.length_nil, Nat.zero_add, Nat.add_zero, Nat.mul_one, and_self, beq_iff_eq, Bool.not_true, Bool.not_false, Bool.not_eq_false', Bool.cond_false_right, Bool.and_eq_true, imp_self, Bool.not_eq_true, Bool.cond_true_left, Bool.or_eq_true]
  refine ⟨fun h => (may_len h).symm, fun h => ?_⟩
  simp only [Bool.or_eq_false_iff, decide_eq_false_iff_not] at h
  refine ⟨fun y _ => 0 ≤ y.1 ∧ y.1 ≤ l.length ∧ ∀ j, j < y.1.toNat → 0 ≤ l.getD j 0 ∧ l.getD j 0 ≤ 2147483647, fun y _ => ((l.length : Int) - y.1).toNat, ⟨Int.le_refl 0, by simp only; omega, fun j hj => by simp at hj⟩, ?_⟩
  rintro ⟨i, b, _⟩ _ _ ⟨i0, i1, i2⟩
  simp only at i0 i1 i2 ⊢
  have hw1 : IntKind.wrap .i64 (i + 1) = i + 1 := wrapK _ (by omega) (by omega)
  rw [hw1]
  refine ⟨fun hlt => ⟨⟨i0, hlt⟩, fun hb => (may_in (by omega) hb).symm, fun hg => ⟨⟨by omega, by omega, fun j hj => ?_⟩, by omega⟩⟩, fun hge => ?_⟩
  · simp only [Bool.or_eq_false_iff, decide_eq_false_iff_not] at hg
    by_cases hji : j < i.toNat
    · exact i2 j hji
    · rw [show j = i.toNat by omega]; omega
  · have hr := may_rest (l := l) (by omega) (by omega) (fun j hj => i2 j (by omega))
    have h0 := i2 0 (by omega)
    rw [hr]
    refine ⟨⟨by omega, by omega⟩, fun e => ⟨⟨by omega, by omega⟩, by rw [if_pos (by omega)]⟩, fun e0 => ⟨fun e => ⟨⟨by omega, by omega⟩, by rw [if_pos (by omega)]⟩, fun e1 => ⟨fun e => ⟨⟨by omega, by omega⟩, by rw [if_neg (by omega), if_pos e]⟩, fun e2 => by rw [if_neg (by omega), if_neg e2]⟩⟩⟩
theorem h70 : c_oid_May.ok Tryd.prog GL 70 := con_ok (H := {}) (mkEnv_ok (gl := GL) (l := []) (q := []) (d := []) _ tyOk (by kernel_rfl) trivial trivial trivial) (by kernel_rfl) (by kernel_rfl) (Eq.mp e70 k70)

def t71 : Prop :=
  ∀ (x : List Int × Int × Unit), Kd.wf (Kd.sl (Kd.int IntKind.u8)) x.fst ∧ Kd.wf (Kd.int IntKind.i64) x.snd.fst ∧ True → lenI x.fst ≤ (1000 : Nat) ∧ (0 : Int) ≤ x.snd.fst ∧ x.snd.fst ≤
  (2147483647 : Int) → ∃ (I : Int × Unit → Unit → Prop), ∃ (μ : Int × Unit → Unit → Nat), (Value.slice none (0 : Nat) (0 : Nat) = Value.slice none (0 : Nat) (0 : Nat) ∧ x.snd.fst = x.snd.fst
  ∧ x.fst = x.fst ∧ I ((0 : Int), ()) ()) ∧ ∀ (y : Int × Unit) (z : Unit), Kd.wf (Kd.int IntKind.i64) y.fst ∧ True → True → I y z → (0 : Int) ≤ y.fst ∧ (decide ((127 : Int) < Int.fdiv
  x.snd.fst ((2 : Int) ^ min (Int.toNat y.fst) (64 : Nat))) = true → Value.slice none (0 : Nat) (0 : Nat) = Value.slice none (0 : Nat) (0 : Nat) ∧ x.snd.fst = x.snd.fst ∧ x.fst = x.fst ∧ I
  (IntKind.wrap IntKind.i64 (y.fst + (7 : Int)), ()) () ∧ μ (IntKind.wrap IntKind.i64 (y.fst + (7 : Int)), ()) () < μ y z) ∧ (decide ((127 : Int) < Int.fdiv x.snd.fst ((2 : Int) ^ min
  (Int.toNat y.fst) (64 : Nat))) = false → ∃ (I : Int × Unit → List Int × Unit → Prop), ∃ (μ : Int × Unit → List Int × Unit → Nat), (Value.bool false = Value.bool false ∧ Value.slice none (0
  : Nat) (0 : Nat) = Value.slice none (0 : Nat) (0 : Nat) ∧ x.snd.fst = x.snd.fst ∧ I (y.fst, ()) (x.fst, ())) ∧ ∀ (y : Int × Unit) (z : List Int × Unit), Kd.wf (Kd.int IntKind.i64) y.fst ∧
  True → Kd.wf (Kd.sl (Kd.int IntKind.u8)) z.fst ∧ True → I y z → (decide ((0 : Int) < y.fst) = true → (0 : Int) ≤ y.fst ∧ (0 : Nat) < (1 : Nat) ∧ (List.length z.fst + List.length
  [IntKind.wrap IntKind.u8 (↑(BitVec.toNat (BitVec.ofInt (8 : Nat) (IntKind.wrap IntKind.u8 (Int.fdiv x.snd.fst ((2 : Int) ^ min (Int.toNat y.fst) (64 : Nat)))) ||| BitVec.ofInt (8 : Nat)
  (128 : Int))) : Int)]) * (1 : Nat) ≤ (140737488355328 : Nat) ∧ List.length z.fst + List.length [IntKind.wrap IntKind.u8 (↑(BitVec.toNat (BitVec.ofInt (8 : Nat) (IntKind.wrap IntKind.u8
  (Int.fdiv x.snd.fst ((2 : Int) ^ min (Int.toNat y.fst) (64 : Nat)))) ||| BitVec.ofInt (8 : Nat) (128 : Int))) : Int)] ≤ (9223372036854775807 : Nat) ∧ Value.bool false = Value.bool false ∧
  Value.slice none (0 : Nat) (0 : Nat) = Value.slice none (0 : Nat) (0 : Nat) ∧ x.snd.fst = x.snd.fst ∧ I (IntKind.wrap IntKind.i64 (y.fst - (7 : Int)), ()) (z.fst ++ [IntKind.wrap IntKind.u8
  (↑(BitVec.toNat (BitVec.ofInt (8 : Nat) (IntKind.wrap IntKind.u8 (Int.fdiv x.snd.fst ((2 : Int) ^ min (Int.toNat y.fst) (64 : Nat)))) ||| BitVec.ofInt (8 : Nat) (128 : Int))) : Int)], ()) ∧
  μ (IntKind.wrap IntKind.i64 (y.fst - (7 : Int)), ()) (z.fst ++ [IntKind.wrap IntKind.u8 (↑(BitVec.toNat (BitVec.ofInt (8 : Nat) (IntKind.wrap IntKind.u8 (Int.fdiv x.snd.fst ((2 : Int) ^ min
  (Int.toNat y.fst) (64 : Nat)))) ||| BitVec.ofInt (8 : Nat) (128 : Int))) : Int)], ()) < μ y z) ∧ (decide ((0 : Int) < y.fst) = false → (0 : Nat) < (1 : Nat) ∧ (List.length z.fst +
  List.length [IntKind.wrap IntKind.u8 (↑(BitVec.toNat (BitVec.ofInt (8 : Nat) (IntKind.wrap IntKind.u8 x.snd.fst) &&& BitVec.ofInt (8 : Nat) (127 : Int))) : Int)]) * (1 : Nat) ≤
  (140737488355328 : Nat) ∧ List.length z.fst + List.length [IntKind.wrap IntKind.u8 (↑(BitVec.toNat (BitVec.ofInt (8 : Nat) (IntKind.wrap IntKind.u8 x.snd.fst) &&& BitVec.ofInt (8 : Nat)
  (127 : Int))) : Int)] ≤ (9223372036854775807 : Nat) ∧ z.fst ++ [IntKind.wrap IntKind.u8 (↑(BitVec.toNat (BitVec.ofInt (8 : Nat) (IntKind.wrap IntKind.u8 x.snd.fst) &&& BitVec.ofInt (8 :
  Nat) (127 : Int))) : Int)] = x.fst ++ numO x.snd.fst))
theorem e71 : t71 = Con.vc c_oid_number GL (mkEnv ty [] [] [] [0, 1, 4, 5, 9, 13]) {} Tryd.f71.ntmps Tryd.f71.results.toList (bodyOf Tryd.f71) := by kernel_rfl
theorem k71 : t71 := by
  unfold t71
  rintro ⟨b, n, _⟩ hx hp
  obtain ⟨p0, p1, p2⟩ := hp
  simp only at p0 p1 p2
  have p0 : b.length ≤ 1000 := p0
  have h4 := small4 p2
  try dsimp +instances only [dft_int, dft_sl, dft_str]
  simp only [true_and, and_true, eq_self_iff_true, implies_true, reduceCtorEq, false_implies, true_implies, decide_eq_true_eq, decide_eq_false_iff_not, beq_self_eq_true, Bool.not_eq_true', ne_eq, Decidable.not_not, List.nil_append, List.length_singleton, List.length_cons, List.length_nil, Nat.zero_add, Nat.add_zero, Nat.mul_one, and_self, beq_iff_eq, Bool.not_true, Bool.not_false, Bool.not_eq_false', Bool.cond_false_right, Bool.and_eq_true, imp_self, Bool.not_eq_true, Bool.cond_true_left, Bool.or_eq_true]
  refine ⟨fun y _ => ∃ k : Nat, k ≤ 4 ∧ y.1 = 7 * (k : Int) ∧ (0 < k → 0 < n / 128 ^ k), fun y _ => (28 - y.1).toNat, ⟨0, by omega, rfl, fun h => absurd h (by omega)⟩, ?_⟩
  rintro ⟨y, _⟩ _ _ ⟨k, k4, rfl, hk⟩
  simp only
  rw [shift_div n k p1 k4]
  refine ⟨by omega, fun hlt => ?_, fun hge => ?_⟩
  · have : k < 4 := by
      rcases Nat.lt_or_ge k 4 with h | h
      · exact h
      · rw [show k = 4 by omega] at hlt; omega
    rw [show IntKind.wrap .i64 (7 * (k : Int) + 7) = 7 * ((k + 1 : Nat) : Int) by rw [wrapK _ (by omega) (by omega)]; omega]
    refine ⟨⟨k + 1, by omega, rfl, fun _ => ?_⟩, by omega⟩
    rw [pow_div n k k4]
    omega
  · have hN : hiN n = k := hi_is p1 k4 (by omega) hk
    refine ⟨fun y z => ∃ j : Nat, j ≤ k ∧ y.1 = 7 * (j : Int) ∧ z.1 ++ hiD j n = b ++ hiD k n, fun y _ => y.1.toNat, ⟨k, Nat.le_refl k, rfl, rfl⟩, ?_⟩
    rintro ⟨y, _⟩ ⟨z, _⟩ _ _ ⟨j, jk, rfl, hz⟩
    simp only at hz ⊢
    have hl : z.length + j = b.length + k := by
      have := congrArg List.length hz
      rwa [List.length_append, List.length_append, hi_length, hi_length] at this
    refine ⟨fun hj => ?_, fun hj => ?_⟩
    · obtain ⟨i, rfl⟩ : ∃ i, j = i + 1 := ⟨j - 1, by omega⟩
      rw [shift_div n (i + 1) p1 (by omega), or128, show IntKind.wrap .i64 (7 * ((i + 1 : Nat) : Int) - 7) = 7 * (i : Int) by rw [wrapK _ (by omega) (by omega)]; omega]
      refine ⟨by omega, by decide, by omega, by omega, ⟨i, by omega, rfl, ?_⟩, by omega⟩
      rw [List.append_assoc]
      exact hz
    · have : j = 0 := by omega
      subst this
      rw [and127]
      refine ⟨by decide, by omega, by omega, ?_⟩
      rw [numO, hN, ← List.append_assoc, ← hz]
      simp [hiD]
theorem h71 : c_oid_number.ok Tryd.prog GL 71 := con_ok (H := {}) (mkEnv_ok (gl := GL) (l := []) (q := []) (d := []) _ tyOk (by kernel_rfl) trivial trivial trivial) (by kernel_rfl) (by kernel_rfl) (Eq.mp e71 k71)

def t48 : Prop :=
  ∀ (x : List Int × Unit), Kd.wf (Kd.sl (Kd.int IntKind.i64)) x.fst ∧ True → True → True ∧ (∀ (y : Bool × Unit), Kd.wf Kd.bool y.fst ∧ True → y.fst = mayO x.fst → ((!y.fst) = true → ([], (2 :
  Int)) = EncO x.fst) ∧ ((!y.fst) = false → ((0 : Int) ≤ (0 : Int) ∧ (0 : Int) < (↑(List.length x.fst) : Int)) ∧ ((0 : Int) ≤ (1 : Int) ∧ (1 : Int) < (↑(List.length x.fst) : Int)) ∧ (lenI []
  ≤ (1000 : Nat) ∧ (0 : Int) ≤ IntKind.wrap IntKind.i64 (IntKind.wrap IntKind.i64 ((40 : Int) * List.getD x.fst (0 : Nat) (Kd.dft (Kd.int IntKind.i64))) + List.getD x.fst (1 : Nat) (Kd.dft
  (Kd.int IntKind.i64))) ∧ IntKind.wrap IntKind.i64 (IntKind.wrap IntKind.i64 ((40 : Int) * List.getD x.fst (0 : Nat) (Kd.dft (Kd.int IntKind.i64))) + List.getD x.fst (1 : Nat) (Kd.dft
  (Kd.int IntKind.i64))) ≤ (2147483647 : Int)) ∧ (∀ (y : List Int × Unit), Kd.wf (Kd.sl (Kd.int IntKind.u8)) y.fst ∧ True → y.fst = [] ++ numO (IntKind.wrap IntKind.i64 (IntKind.wrap
  IntKind.i64 ((40 : Int) * List.getD x.fst (0 : Nat) (Kd.dft (Kd.int IntKind.i64))) + List.getD x.fst (1 : Nat) (Kd.dft (Kd.int IntKind.i64)))) → ((0 : Int) ≤ (2 : Int) ∧ (2 : Int) ≤
  (↑(List.length x.fst) : Int)) ∧ ∃ (I : Int × Unit → List Int × Unit → Prop), ∃ (μ : Int × Unit → List Int × Unit → Nat), ((↑(List.length (List.drop (2 : Nat) x.fst)) : Int) = (↑(List.length
  (List.drop (2 : Nat) x.fst)) : Int) ∧ List.drop (2 : Nat) x.fst = List.drop (2 : Nat) x.fst ∧ Value.bool false = Value.bool false ∧ (0 : Int) = (0 : Int) ∧ Value.slice none (0 : Nat) (0 :
  Nat) = Value.slice none (0 : Nat) (0 : Nat) ∧ x.fst = x.fst ∧ I ((0 : Int), ()) (y.fst, ())) ∧ ∀ (y : Int × Unit) (z : List Int × Unit), Kd.wf (Kd.int IntKind.i64) y.fst ∧ True → Kd.wf
  (Kd.sl (Kd.int IntKind.u8)) z.fst ∧ True → I y z → (decide (y.fst < (↑(List.length (List.drop (2 : Nat) x.fst)) : Int)) = true → ((0 : Int) ≤ y.fst ∧ y.fst < (↑(List.length (List.drop (2 :
  Nat) x.fst)) : Int)) ∧ (lenI z.fst ≤ (1000 : Nat) ∧ (0 : Int) ≤ List.getD (List.drop (2 : Nat) x.fst) (Int.toNat y.fst) (Kd.dft (Kd.int IntKind.i64)) ∧ List.getD (List.drop (2 : Nat) x.fst)
  (Int.toNat y.fst) (Kd.dft (Kd.int IntKind.i64)) ≤ (2147483647 : Int)) ∧ (∀ (y_1 : List Int × Unit), Kd.wf (Kd.sl (Kd.int IntKind.u8)) y_1.fst ∧ True → y_1.fst = z.fst ++ numO (List.getD
  (List.drop (2 : Nat) x.fst) (Int.toNat y.fst) (Kd.dft (Kd.int IntKind.i64))) → (↑(List.length (List.drop (2 : Nat) x.fst)) : Int) = (↑(List.length (List.drop (2 : Nat) x.fst)) : Int) ∧
  List.drop (2 : Nat) x.fst = List.drop (2 : Nat) x.fst ∧ Value.bool false = Value.bool false ∧ (0 : Int) = (0 : Int) ∧ Value.slice none (0 : Nat) (0 : Nat) = Value.slice none (0 : Nat) (0 :
  Nat) ∧ x.fst = x.fst ∧ I (IntKind.wrap IntKind.i64 (y.fst + (1 : Int)), ()) (y_1.fst, ()) ∧ μ (IntKind.wrap IntKind.i64 (y.fst + (1 : Int)), ()) (y_1.fst, ()) < μ y z) ∧ True) ∧ (decide
  (y.fst < (↑(List.length (List.drop (2 : Nat) x.fst)) : Int)) = false → (z.fst, (0 : Int)) = EncO x.fst)) ∧ True)) ∧ True
theorem e48 : t48 = Con.vc c_oid_Encode GL (mkEnv ty [(70, conSem c_oid_May), (71, conSem c_oid_number)] [] [] [0, 2, 3, 4, 6, 9, 20, 21, 22, 23]) {} Tryd.f48.ntmps Tryd.f48.results.toList (bodyOf Tryd.f48) := by kernel_rfl
theorem k48 : t48 := by
  unfold t48
  rintro ⟨l, _⟩ hx hp
  try dsimp +instances only [dft_int, dft_sl, dft_str]
  simp only [true_and, and_true, eq_self_iff_true, implies_true, reduceCtorEq, false_implies, true_implies, decide_eq_true_eq, decide_eq_false_iff_not, beq_self_eq_true, Bool.not_eq_true', ne_eq, Decidable.not_not, List.nil_append, List.length_singleton, List.length_cons, List.length_nil, Nat.zero_add, Nat.add_zero, Nat.mul_one, and_self, beq_iff_eq, Bool.not_true, Bool.not_false, Bool.not_eq_false', Bool.cond_false_right, Bool.and_eq_true, imp_self, Bool.not_eq_true, Bool.cond_true_left, Bool.or_eq_true]
  simp only [all_bool]
  refine ⟨fun h => by rw [EncO, h]; rfl, fun h => ?_⟩
  obtain ⟨h1, h2, h3, h4, h5⟩ := may_args h
  have hg : ∀ i, i < l.length → 0 ≤ l.getD i 0 ∧ l.getD i 0 ≤ 2147483647 := fun i hi => h3 _ (by
    rw [List.getD_eq_getElem?_getD, List.getElem?_eq_getElem hi]
    exact List.getElem_mem _)
  have g0 := hg 0 (by omega)
  have g1 := hg 1 (by omega)
  rw [wrapK (40 * l.getD 0 0) (by omega) (by omega), wrapK (40 * l.getD 0 0 + l.getD 1 0) (by omega) (by omega)]
  refine ⟨⟨by omega, by omega⟩, ⟨by omega, by omega⟩, ⟨by decide, h4, h5⟩, ?_⟩
  rintro ⟨a, _⟩ _ ea
  simp only at ea ⊢
  have hdl : (List.drop 2 l).length = l.length - 2 := List.length_drop
  have hdg : ∀ i : Nat, (List.drop 2 l).getD i 0 = l.getD (i + 2) 0 := fun i => by
    rw [List.getD_eq_getElem?_getD, List.getElem?_drop, ← List.getD_eq_getElem?_getD, Nat.add_comm]
  rw [hdl]
  refine ⟨⟨by omega, by omega⟩, fun y z => 0 ≤ y.1 ∧ y.1 ≤ (l.length : Int) - 2 ∧ z.1 = encP l (y.1.toNat + 2), fun y _ => ((l.length : Int) - y.1).toNat, ⟨Int.le_refl 0, by simp only; omega, by rw [ea]; exact (encP_two l).symm⟩, ?_⟩
  rintro ⟨i, _⟩ ⟨z, _⟩ _ _ ⟨i0, i1, ez⟩
  simp only at i0 i1 ez ⊢
  have hw1 : IntKind.wrap .i64 (i + 1) = i + 1 := wrapK _ (by omega) (by omega)
  rw [hw1, hdg]
  refine ⟨fun hlt => ⟨⟨by omega, hlt⟩, ⟨?_, hg (i.toNat + 2) (by omega)⟩, ?_⟩, fun hge => ?_⟩
  · have l1 := encP_len l (i.toNat + 2)
    rw [← ez] at l1
    show z.length ≤ 1000
    omega
  · rintro ⟨c, _⟩ _ ec
    simp only at ec ⊢
    refine ⟨⟨by omega, by omega, ?_⟩, by omega⟩
    rw [show (i + 1).toNat + 2 = i.toNat + 2 + 1 by omega, encP_step (by omega) (by omega), ec, ez]
  · rw [EncO, h, if_pos rfl, ez, encP_all (by omega)]
theorem h48 : c_oid_Encode.ok Tryd.prog GL 48 := con_ok (H := {}) (mkEnv_ok (gl := GL) (l := [(70, conSem c_oid_May), (71, conSem c_oid_number)]) (q := []) (d := []) _ tyOk (by kernel_rfl) ⟨h70.call, h71.call, trivial⟩ trivial trivial) (by kernel_rfl) (by kernel_rfl) (Eq.mp e48 k48)

end Go.Proofs.YtcaekpbmmbfeiaaDoor
end
