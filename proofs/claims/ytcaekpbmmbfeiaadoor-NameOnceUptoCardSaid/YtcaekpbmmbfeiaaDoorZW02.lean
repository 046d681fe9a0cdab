/- Texts of a verified walk, led together: NameA, NameW, Name2aA, Name2aW, Law12wA, Law12wW. -/
import Derived.Test.YtcaekpbmmbfeiaaDoorZW01
import Derived.Test.YtcaekpbmmbfeiaaDoorZV07
set_option linter.unusedVariables false
set_option linter.unusedSimpArgs false
section
/- Contracts. -/
namespace Go.Proofs.YtcaekpbmmbfeiaaDoor
open Go Go.Vc Go.Pl Go.Proofs
def c_name_Begins : Con := { args := [.dat (.sl AT), .dat (.sl AT)], res := [.dat .bool], pre := fun x => x.2.1.length ≤ 1000000000 ∧ (∀ a ∈ x.1, a.2.length ≤ 100000000) ∧ ∀ a ∈ x.2.1, a.2.length ≤ 100000000, post := fun x y => y.1 = beginsD x.1 x.2.1 }
def c_name_Same : Con := { args := [.dat (.sl AT), .dat (.sl AT)], res := [.dat .bool], pre := fun x => x.1.length ≤ 1000000000 ∧ x.2.1.length ≤ 1000000000 ∧ (∀ a ∈ x.1, a.2.length ≤ 100000000) ∧ ∀ a ∈ x.2.1, a.2.length ≤ 100000000, post := fun x y => y.1 = sameN x.1 x.2.1 }
def c_name_label : Con := { args := [.dat I64], res := [.dat .str], pre := fun _ => True, post := fun x y => y.1 = labelK x.1 }
def c_name_capitals : Con := { args := [.dat .str], res := [.dat .bool], pre := fun _ => True, post := fun x y => y.1 = capsD x.1 }
def c_name_may : Con := { args := [.dat AT], res := [.dat .bool], pre := fun _ => True, post := fun x y => y.1 = mayA x.1 }
def c_name_May : Con := { args := [.dat (.sl AT)], res := [.dat .bool], pre := fun _ => True, post := fun x y => y.1 = mayN x.1 }

end Go.Proofs.YtcaekpbmmbfeiaaDoor
end
section
/- Walks. -/
namespace Go.Proofs.YtcaekpbmmbfeiaaDoor
open Go Go.Vc Go.Pl Go.Proofs
set_option linter.unusedVariables false
set_option linter.unusedSimpArgs false
theorem adft_eq : Kd.dft (Kd.pair (Kd.int IntKind.i64) Kd.str) = adft := rfl
def t53 : Prop :=
  ∀ (x : Int × Unit), Kd.wf (Kd.int IntKind.i64) x.fst ∧ True → True → (decide (x.fst = (3 : Int)) = true → bs { data := #[(67 : UInt8), (78 : UInt8)] } = labelK x.fst) ∧ (decide (x.fst = (3
  : Int)) = false → (decide (x.fst = (5 : Int)) = true → bs { data := #[(83 : UInt8), (78 : UInt8)] } = labelK x.fst) ∧ (decide (x.fst = (5 : Int)) = false → (decide (x.fst = (6 : Int)) =
  true → bs { data := #[(67 : UInt8)] } = labelK x.fst) ∧ (decide (x.fst = (6 : Int)) = false → (decide (x.fst = (7 : Int)) = true → bs { data := #[(76 : UInt8)] } = labelK x.fst) ∧ (decide
  (x.fst = (7 : Int)) = false → (decide (x.fst = (8 : Int)) = true → bs { data := #[(83 : UInt8), (84 : UInt8)] } = labelK x.fst) ∧ (decide (x.fst = (8 : Int)) = false → (decide (x.fst = (10
  : Int)) = true → bs { data := #[(79 : UInt8)] } = labelK x.fst) ∧ (decide (x.fst = (10 : Int)) = false → (decide (x.fst = (11 : Int)) = true → bs { data := #[(79 : UInt8), (85 : UInt8)] } =
  labelK x.fst) ∧ (decide (x.fst = (11 : Int)) = false → bs { data := #[] } = labelK x.fst)))))))
theorem e53 : t53 = Con.vc c_name_label GL (mkEnv ty [] [] [] [0, 2, 3, 4, 6, 8, 10, 12, 14, 16]) {} Tryd.f53.ntmps Tryd.f53.results.toList (bodyOf Tryd.f53) := by kernel_rfl
theorem k53 : t53 := by
  unfold t53
  rintro ⟨l, _⟩ hx hp
  try dsimp +instances only [dft_int, dft_sl, dft_str]
  simp only [true_and, and_true, eq_self_iff_true, implies_true, reduceCtorEq, false_implies, true_implies, decide_eq_true_eq, decide_eq_false_iff_not, beq_self_eq_true, Bool.not_eq_true', ne_eq, Decidable.not_not, List.nil_append, List.length_singleton, List.length_cons, List.length_nil, Nat.zero_add, Nat.add_zero, Nat.mul_one, and_self, beq_iff_eq, Bool.not_true, Bool.not_false, Bool.not_eq_false', Bool.cond_false_right, Bool.and_eq_true, imp_self, Bool.not_eq_true, Bool.cond_true_left, Bool.or_eq_true]
  have e1 : bs { data := #[67, 78] } = [67, 78] := by decide
  have e2 : bs { data := #[83, 78] } = [83, 78] := by decide
  have e3 : bs { data := #[67] } = [67] := by decide
  have e4 : bs { data := #[76] } = [76] := by decide
  have e5 : bs { data := #[83, 84] } = [83, 84] := by decide
  have e6 : bs { data := #[79] } = [79] := by decide
  have e7 : bs { data := #[79, 85] } = [79, 85] := by decide
  rw [e1, e2, e3, e4, e5, e6, e7, bs_nil]
  unfold labelK
  refine ⟨fun h => by rw [if_pos h], fun h1 => ⟨fun h => by rw [if_neg h1, if_pos h], fun h2 => ⟨fun h => by rw [if_neg h1, if_neg h2, if_pos h], fun h3 => ⟨fun h => by rw [if_neg h1, if_neg h2, if_neg h3, if_pos h], fun h4 => ⟨fun h => by rw [if_neg h1, if_neg h2, if_neg h3, if_neg h4, if_pos h], fun h5 => ⟨fun h => by rw [if_neg h1, if_neg h2, if_neg h3, if_neg h4, if_neg h5, if_pos h], fun h6 => ⟨fun h => by rw [if_neg h1, if_neg h2, if_neg h3, if_neg h4, if_neg h5, if_neg h6, if_pos h], fun h7 => by rw [if_neg h1, if_neg h2, if_neg h3, if_neg h4, if_neg h5, if_neg h6, if_neg h7]⟩⟩⟩⟩⟩⟩⟩
theorem h53 : c_name_label.ok Tryd.prog GL 53 := con_ok (H := {}) (mkEnv_ok (gl := GL) (l := []) (q := []) (d := []) _ tyOk (by kernel_rfl) trivial trivial trivial) (by kernel_rfl) (by kernel_rfl) (Eq.mp e53 k53)

def t61 : Prop :=
  ∀ (x : List Int × Unit), Kd.wf Kd.str x.fst ∧ True → True → (decide ((↑(List.length x.fst) : Int) = (2 : Int)) = true → True) ∧ (decide ((↑(List.length x.fst) : Int) = (2 : Int)) = true →
  (decide ((↑(List.length x.fst) : Int) = (2 : Int)) == true) = true ∧ ((0 : Int) ≤ (0 : Int) ∧ (0 : Int) < (↑(List.length x.fst) : Int)) ∧ True) ∧ (decide ((↑(List.length x.fst) : Int) = (2
  : Int)) = true → (decide ((↑(List.length x.fst) : Int) = (2 : Int)) == true) = true ∧ True) ∧ (decide ((↑(List.length x.fst) : Int) = (2 : Int)) = true → (decide ((↑(List.length x.fst) :
  Int) = (2 : Int)) == true) = true) ∧ ((bif decide ((↑(List.length x.fst) : Int) = (2 : Int)) then decide ((65 : Int) ≤ List.getD x.fst (0 : Nat) (0 : Int)) else false) = true → True) ∧
  ((bif decide ((↑(List.length x.fst) : Int) = (2 : Int)) then decide ((65 : Int) ≤ List.getD x.fst (0 : Nat) (0 : Int)) else false) = true → ((bif decide ((↑(List.length x.fst) : Int) = (2 :
  Int)) then decide ((65 : Int) ≤ List.getD x.fst (0 : Nat) (0 : Int)) else false) == true) = true ∧ ((0 : Int) ≤ (0 : Int) ∧ (0 : Int) < (↑(List.length x.fst) : Int)) ∧ True) ∧ ((bif decide
  ((↑(List.length x.fst) : Int) = (2 : Int)) then decide ((65 : Int) ≤ List.getD x.fst (0 : Nat) (0 : Int)) else false) = true → ((bif decide ((↑(List.length x.fst) : Int) = (2 : Int)) then
  decide ((65 : Int) ≤ List.getD x.fst (0 : Nat) (0 : Int)) else false) == true) = true ∧ True) ∧ ((bif decide ((↑(List.length x.fst) : Int) = (2 : Int)) then decide ((65 : Int) ≤ List.getD
  x.fst (0 : Nat) (0 : Int)) else false) = true → ((bif decide ((↑(List.length x.fst) : Int) = (2 : Int)) then decide ((65 : Int) ≤ List.getD x.fst (0 : Nat) (0 : Int)) else false) == true) =
  true) ∧ ((bif bif decide ((↑(List.length x.fst) : Int) = (2 : Int)) then decide ((65 : Int) ≤ List.getD x.fst (0 : Nat) (0 : Int)) else false then decide (List.getD x.fst (0 : Nat) (0 :
  Int) ≤ (90 : Int)) else false) = true → True) ∧ ((bif bif decide ((↑(List.length x.fst) : Int) = (2 : Int)) then decide ((65 : Int) ≤ List.getD x.fst (0 : Nat) (0 : Int)) else false then
  decide (List.getD x.fst (0 : Nat) (0 : Int) ≤ (90 : Int)) else false) = true → ((bif bif decide ((↑(List.length x.fst) : Int) = (2 : Int)) then decide ((65 : Int) ≤ List.getD x.fst (0 :
  Nat) (0 : Int)) else false then decide (List.getD x.fst (0 : Nat) (0 : Int) ≤ (90 : Int)) else false) == true) = true ∧ ((0 : Int) ≤ (1 : Int) ∧ (1 : Int) < (↑(List.length x.fst) : Int)) ∧
  True) ∧ ((bif bif decide ((↑(List.length x.fst) : Int) = (2 : Int)) then decide ((65 : Int) ≤ List.getD x.fst (0 : Nat) (0 : Int)) else false then decide (List.getD x.fst (0 : Nat) (0 :
  Int) ≤ (90 : Int)) else false) = true → ((bif bif decide ((↑(List.length x.fst) : Int) = (2 : Int)) then decide ((65 : Int) ≤ List.getD x.fst (0 : Nat) (0 : Int)) else false then decide
  (List.getD x.fst (0 : Nat) (0 : Int) ≤ (90 : Int)) else false) == true) = true ∧ True) ∧ ((bif bif decide ((↑(List.length x.fst) : Int) = (2 : Int)) then decide ((65 : Int) ≤ List.getD
  x.fst (0 : Nat) (0 : Int)) else false then decide (List.getD x.fst (0 : Nat) (0 : Int) ≤ (90 : Int)) else false) = true → ((bif bif decide ((↑(List.length x.fst) : Int) = (2 : Int)) then
  decide ((65 : Int) ≤ List.getD x.fst (0 : Nat) (0 : Int)) else false then decide (List.getD x.fst (0 : Nat) (0 : Int) ≤ (90 : Int)) else false) == true) = true) ∧ ((bif bif bif decide
  ((↑(List.length x.fst) : Int) = (2 : Int)) then decide ((65 : Int) ≤ List.getD x.fst (0 : Nat) (0 : Int)) else false then decide (List.getD x.fst (0 : Nat) (0 : Int) ≤ (90 : Int)) else
  false then decide ((65 : Int) ≤ List.getD x.fst (1 : Nat) (0 : Int)) else false) = true → True) ∧ ((bif bif bif decide ((↑(List.length x.fst) : Int) = (2 : Int)) then decide ((65 : Int) ≤
  List.getD x.fst (0 : Nat) (0 : Int)) else false then decide (List.getD x.fst (0 : Nat) (0 : Int) ≤ (90 : Int)) else false then decide ((65 : Int) ≤ List.getD x.fst (1 : Nat) (0 : Int)) else
  false) = true → ((bif bif bif decide ((↑(List.length x.fst) : Int) = (2 : Int)) then decide ((65 : Int) ≤ List.getD x.fst (0 : Nat) (0 : Int)) else false then decide (List.getD x.fst (0 :
  Nat) (0 : Int) ≤ (90 : Int)) else false then decide ((65 : Int) ≤ List.getD x.fst (1 : Nat) (0 : Int)) else false) == true) = true ∧ ((0 : Int) ≤ (1 : Int) ∧ (1 : Int) < (↑(List.length
  x.fst) : Int)) ∧ True) ∧ ((bif bif bif decide ((↑(List.length x.fst) : Int) = (2 : Int)) then decide ((65 : Int) ≤ List.getD x.fst (0 : Nat) (0 : Int)) else false then decide (List.getD
  x.fst (0 : Nat) (0 : Int) ≤ (90 : Int)) else false then decide ((65 : Int) ≤ List.getD x.fst (1 : Nat) (0 : Int)) else false) = true → ((bif bif bif decide ((↑(List.length x.fst) : Int) =
  (2 : Int)) then decide ((65 : Int) ≤ List.getD x.fst (0 : Nat) (0 : Int)) else false then decide (List.getD x.fst (0 : Nat) (0 : Int) ≤ (90 : Int)) else false then decide ((65 : Int) ≤
  List.getD x.fst (1 : Nat) (0 : Int)) else false) == true) = true ∧ True) ∧ ((bif bif bif decide ((↑(List.length x.fst) : Int) = (2 : Int)) then decide ((65 : Int) ≤ List.getD x.fst (0 :
  Nat) (0 : Int)) else false then decide (List.getD x.fst (0 : Nat) (0 : Int) ≤ (90 : Int)) else false then decide ((65 : Int) ≤ List.getD x.fst (1 : Nat) (0 : Int)) else false) = true →
  ((bif bif bif decide ((↑(List.length x.fst) : Int) = (2 : Int)) then decide ((65 : Int) ≤ List.getD x.fst (0 : Nat) (0 : Int)) else false then decide (List.getD x.fst (0 : Nat) (0 : Int) ≤
  (90 : Int)) else false then decide ((65 : Int) ≤ List.getD x.fst (1 : Nat) (0 : Int)) else false) == true) = true) ∧ (bif bif bif bif decide ((↑(List.length x.fst) : Int) = (2 : Int)) then
  decide ((65 : Int) ≤ List.getD x.fst (0 : Nat) (0 : Int)) else false then decide (List.getD x.fst (0 : Nat) (0 : Int) ≤ (90 : Int)) else false then decide ((65 : Int) ≤ List.getD x.fst (1 :
  Nat) (0 : Int)) else false then decide (List.getD x.fst (1 : Nat) (0 : Int) ≤ (90 : Int)) else false) = capsD x.fst
theorem e61 : t61 = Con.vc c_name_capitals GL (mkEnv ty [] [] [] [0, 2]) {} Tryd.f61.ntmps Tryd.f61.results.toList (bodyOf Tryd.f61) := by kernel_rfl
theorem k61 : t61 := by
  unfold t61
  rintro ⟨l, _⟩ hx hp
  try dsimp +instances only [dft_int, dft_sl, dft_str]
  simp only [true_and, and_true, eq_self_iff_true, implies_true, reduceCtorEq, false_implies, true_implies, decide_eq_true_eq, decide_eq_false_iff_not, beq_self_eq_true, Bool.not_eq_true', ne_eq, Decidable.not_not, List.nil_append, List.length_singleton, List.length_cons, List.length_nil, Nat.zero_add, Nat.add_zero, Nat.mul_one, and_self, beq_iff_eq, Bool.not_true, Bool.not_false, Bool.not_eq_false', Bool.cond_false_right, Bool.and_eq_true, imp_self, Bool.not_eq_true, Bool.cond_true_left, Bool.or_eq_true]
  refine ⟨fun h => ⟨h, by decide, by omega⟩, fun h => ⟨h, by decide, by omega⟩, fun h => ⟨h, by decide, by omega⟩, fun h => ⟨h, by decide, by omega⟩, ?_⟩
  rw [Bool.eq_iff_iff, capsD]
  simp only [Bool.and_eq_true, decide_eq_true_eq]
  omega
theorem h61 : c_name_capitals.ok Tryd.prog GL 61 := con_ok (H := {}) (mkEnv_ok (gl := GL) (l := []) (q := []) (d := []) _ tyOk (by kernel_rfl) trivial trivial trivial) (by kernel_rfl) (by kernel_rfl) (Eq.mp e61 k61)

def t39 : Prop :=
  ∀ (x : (Int × List Int) × Unit), Kd.wf (Kd.pair (Kd.int IntKind.i64) Kd.str) x.fst ∧ True → True → List.length [SV.dat (Kd.int IntKind.i64) x.fst.fst, SV.dat Kd.str x.fst.snd] ≤ (65536 :
  Nat) ∧ True ∧ (∀ (y : List Int × Unit), Kd.wf Kd.str y.fst ∧ True → y.fst = labelK x.fst.fst → (decide (y.fst = bs { data := #[] }) = false → True) ∧ (decide (y.fst = bs { data := #[] }) =
  false → (decide (y.fst = bs { data := #[] }) == false) = true ∧ True) ∧ (decide (y.fst = bs { data := #[] }) = false → (decide (y.fst = bs { data := #[] }) == false) = true ∧ True) ∧
  (decide (y.fst = bs { data := #[] }) = false → (decide (y.fst = bs { data := #[] }) == false) = true) ∧ ((bif decide (y.fst = bs { data := #[] }) then true else decide (x.fst.snd = bs {
  data := #[] })) = false → True) ∧ ((bif decide (y.fst = bs { data := #[] }) then true else decide (x.fst.snd = bs { data := #[] })) = false → ((bif decide (y.fst = bs { data := #[] }) then
  true else decide (x.fst.snd = bs { data := #[] })) == false) = true ∧ True) ∧ ((bif decide (y.fst = bs { data := #[] }) then true else decide (x.fst.snd = bs { data := #[] })) = false →
  ((bif decide (y.fst = bs { data := #[] }) then true else decide (x.fst.snd = bs { data := #[] })) == false) = true ∧ True) ∧ ((bif decide (y.fst = bs { data := #[] }) then true else decide
  (x.fst.snd = bs { data := #[] })) = false → ((bif decide (y.fst = bs { data := #[] }) then true else decide (x.fst.snd = bs { data := #[] })) == false) = true ∧ True) ∧ ((bif decide (y.fst
  = bs { data := #[] }) then true else decide (x.fst.snd = bs { data := #[] })) = false → ((bif decide (y.fst = bs { data := #[] }) then true else decide (x.fst.snd = bs { data := #[] })) ==
  false) = true) ∧ ((bif bif decide (y.fst = bs { data := #[] }) then true else decide (x.fst.snd = bs { data := #[] }) then true else decide ((64 : Int) < (↑(List.length x.fst.snd) : Int)))
  = false → True) ∧ ((bif bif decide (y.fst = bs { data := #[] }) then true else decide (x.fst.snd = bs { data := #[] }) then true else decide ((64 : Int) < (↑(List.length x.fst.snd) : Int)))
  = false → ((bif bif decide (y.fst = bs { data := #[] }) then true else decide (x.fst.snd = bs { data := #[] }) then true else decide ((64 : Int) < (↑(List.length x.fst.snd) : Int))) ==
  false) = true ∧ True) ∧ ((bif bif decide (y.fst = bs { data := #[] }) then true else decide (x.fst.snd = bs { data := #[] }) then true else decide ((64 : Int) < (↑(List.length x.fst.snd) :
  Int))) = false → ((bif bif decide (y.fst = bs { data := #[] }) then true else decide (x.fst.snd = bs { data := #[] }) then true else decide ((64 : Int) < (↑(List.length x.fst.snd) : Int)))
  == false) = true ∧ True ∧ (∀ (y : Bool × Unit), Kd.wf Kd.bool y.fst ∧ True → y.fst = mayD (12 : Int) x.fst.snd → ((!y.fst) = true → false = mayA x.fst) ∧ ((!y.fst) = false → (decide
  (x.fst.fst = (6 : Int)) = true → True ∧ (∀ (y : Bool × Unit), Kd.wf Kd.bool y.fst ∧ True → y.fst = capsD x.fst.snd → ((!y.fst) = true → false = mayA x.fst) ∧ ((!y.fst) = false → True ∧ (∀
  (y : Bool × Unit), Kd.wf Kd.bool y.fst ∧ True → y.fst = mayD (19 : Int) x.fst.snd → y.fst = mayA x.fst) ∧ True)) ∧ True) ∧ (decide (x.fst.fst = (6 : Int)) = false → (decide (x.fst.fst = (5
  : Int)) = true → True ∧ (∀ (y : Bool × Unit), Kd.wf Kd.bool y.fst ∧ True → y.fst = mayD (19 : Int) x.fst.snd → y.fst = mayA x.fst) ∧ True) ∧ (decide (x.fst.fst = (5 : Int)) = false → true =
  mayA x.fst)))) ∧ True) ∧ ((bif bif decide (y.fst = bs { data := #[] }) then true else decide (x.fst.snd = bs { data := #[] }) then true else decide ((64 : Int) < (↑(List.length x.fst.snd) :
  Int))) = !false → false = mayA x.fst)) ∧ True
theorem e39 : t39 = Con.vc c_name_may GL (mkEnv ty [(53, conSem c_name_label), (60, conSem c_text_May), (61, conSem c_name_capitals)] [] [] [0, 1, 2, 23, 25, 26, 28, 33]) {} Tryd.f39.ntmps Tryd.f39.results.toList (bodyOf Tryd.f39) := by kernel_rfl
theorem k39 : t39 := by
  unfold t39
  rintro ⟨⟨k, v⟩, _⟩ hx hp
  try dsimp +instances only [dft_int, dft_sl, dft_str]
  simp only [true_and, and_true, eq_self_iff_true, implies_true, reduceCtorEq, false_implies, true_implies, decide_eq_true_eq, decide_eq_false_iff_not, beq_self_eq_true, Bool.not_eq_true', ne_eq, Decidable.not_not, List.nil_append, List.length_singleton, List.length_cons, List.length_nil, Nat.zero_add, Nat.add_zero, Nat.mul_one, and_self, beq_iff_eq, Bool.not_true, Bool.not_false, Bool.not_eq_false', Bool.cond_false_right, Bool.and_eq_true, imp_self, Bool.not_eq_true, Bool.cond_true_left, Bool.or_eq_true]
  rw [bs_nil]
  refine ⟨by decide, ?_⟩
  rintro ⟨a, _⟩ _ ea
  simp only at ea ⊢
  subst ea
  have hv : v = [] ↔ v.length = 0 := ⟨fun h => by rw [h]; rfl, List.eq_nil_of_length_eq_zero⟩
  simp only [Bool.or_eq_false_iff, decide_eq_false_iff_not]
  refine ⟨fun h => ⟨h, ?_⟩, fun h => ?_⟩
  · have hM : mayA (k, v) = (mayD 12 v && (if k = 6 then capsD v && mayD 19 v else if k = 5 then mayD 19 v else true)) := by
      rw [mayA, decide_eq_true ⟨h.1.1, h.1.2, by simp only; omega⟩]; rfl
    rintro ⟨b, _⟩ _ eb
    simp only at eb ⊢
    rw [hM, ← eb]
    refine ⟨fun hb => by rw [hb]; rfl, fun hb => ?_⟩
    rw [hb]
    refine ⟨fun hk => ?_, fun hk => ⟨fun hk5 => ?_, fun hk5 => by rw [if_neg hk, if_neg hk5]; rfl⟩⟩
    · rintro ⟨c, _⟩ _ ec
      simp only at ec ⊢
      rw [if_pos hk, ← ec]
      refine ⟨fun hc => by rw [hc]; rfl, fun hc => ?_⟩
      rintro ⟨d, _⟩ _ ed
      simp only at ed ⊢
      rw [hc, ed]; rfl
    · rintro ⟨d, _⟩ _ ed
      simp only at ed ⊢
      rw [if_neg hk, if_pos hk5, ed]; rfl
  · have key : ¬ (labelK k ≠ [] ∧ v ≠ [] ∧ v.length ≤ 64) := by
      rintro ⟨h1, h2, h3⟩
      rcases h with (h | h) | h
      · exact h1 h
      · exact h2 h
      · omega
    rw [mayA]
    simp only
    rw [decide_eq_false key]; rfl
theorem h39 : c_name_may.ok Tryd.prog GL 39 := con_ok (H := {}) (mkEnv_ok (gl := GL) (l := [(53, conSem c_name_label), (60, conSem c_text_May), (61, conSem c_name_capitals)]) (q := []) (d := []) _ tyOk (by kernel_rfl) ⟨h53.call, h60.call, h61.call, trivial⟩ trivial trivial) (by kernel_rfl) (by kernel_rfl) (Eq.mp e39 k39)

def t29 : Prop :=
  ∀ (x : List (Int × List Int) × Unit), Kd.wf (Kd.sl (Kd.pair (Kd.int IntKind.i64) Kd.str)) x.fst ∧ True → True → (decide ((16 : Int) < (↑(List.length x.fst) : Int)) = true → false = mayN
  x.fst) ∧ (decide ((16 : Int) < (↑(List.length x.fst) : Int)) = false → ∃ (I : Int × Bool × Unit → Unit → Prop), ∃ (μ : Int × Bool × Unit → Unit → Nat), ((↑(List.length x.fst) : Int) =
  (↑(List.length x.fst) : Int) ∧ x.fst = x.fst ∧ Value.bool false = Value.bool false ∧ x.fst = x.fst ∧ I ((0 : Int), false, ()) ()) ∧ ∀ (y : Int × Bool × Unit) (z : Unit), Kd.wf (Kd.int
  IntKind.i64) y.fst ∧ Kd.wf Kd.bool y.snd.fst ∧ True → True → I y z → (decide (y.fst < (↑(List.length x.fst) : Int)) = true → ((0 : Int) ≤ y.fst ∧ y.fst < (↑(List.length x.fst) : Int)) ∧ (2
  : Nat) ≤ (65536 : Nat) ∧ True ∧ (∀ (y_1 : Bool × Unit), Kd.wf Kd.bool y_1.fst ∧ True → y_1.fst = mayA ((List.getD x.fst (Int.toNat y.fst) (Kd.dft (Kd.pair (Kd.int IntKind.i64)
  Kd.str))).fst, (List.getD x.fst (Int.toNat y.fst) (Kd.dft (Kd.pair (Kd.int IntKind.i64) Kd.str))).snd) → ((!y_1.fst) = true → false = mayN x.fst) ∧ ((!y_1.fst) = false → (↑(List.length
  x.fst) : Int) = (↑(List.length x.fst) : Int) ∧ x.fst = x.fst ∧ Value.bool false = Value.bool false ∧ x.fst = x.fst ∧ I (IntKind.wrap IntKind.i64 (y.fst + (1 : Int)), y.snd.fst, ()) () ∧ μ
  (IntKind.wrap IntKind.i64 (y.fst + (1 : Int)), y.snd.fst, ()) () < μ y z)) ∧ True) ∧ (decide (y.fst < (↑(List.length x.fst) : Int)) = false → true = mayN x.fst))
theorem e29 : t29 = Con.vc c_name_May GL (mkEnv ty [(39, conSem c_name_may)] [] [] [0, 2, 4, 7, 8, 9, 10, 11, 16]) {} Tryd.f29.ntmps Tryd.f29.results.toList (bodyOf Tryd.f29) := by kernel_rfl
theorem k29 : t29 := by
  unfold t29
  rintro ⟨l, _⟩ hx hp
  try dsimp +instances only [dft_int, dft_sl, dft_str]
  simp only [true_and, and_true, eq_self_iff_true, implies_true, reduceCtorEq, false_implies, true_implies, decide_eq_true_eq, decide_eq_false_iff_not, beq_self_eq_true, Bool.not_eq_true', ne_eq, Decidable.not_not, List.nil_append, List.length_singleton, List.length_cons, List.length_nil, Nat.zero_add, Nat.add_zero, Nat.mul_one, and_self, beq_iff_eq, Bool.not_true, Bool.not_false, Bool.not_eq_false', Bool.cond_false_right, Bool.and_eq_true, imp_self, Bool.not_eq_true, Bool.cond_true_left, Bool.or_eq_true]
  simp only [adft_eq]
  refine ⟨fun h => by rw [mayN, decide_eq_false (by omega)]; rfl, fun h => ?_⟩
  have hM : mayN l = l.all mayA := by rw [mayN, decide_eq_true (by omega)]; rfl
  rw [hM]
  refine ⟨fun y _ => 0 ≤ y.1 ∧ y.1 ≤ l.length ∧ ∀ j, j < y.1.toNat → mayA (l.getD j adft) = true, fun y _ => ((l.length : Int) - y.1).toNat, ⟨Int.le_refl 0, by simp only; omega, fun j hj => by simp at hj⟩, ?_⟩
  rintro ⟨i, b, _⟩ _ _ ⟨i0, i1, i2⟩
  simp only at i0 i1 i2 ⊢
  have hw1 : IntKind.wrap .i64 (i + 1) = i + 1 := wrapK _ (by omega) (by omega)
  rw [hw1]
  refine ⟨fun hlt => ⟨⟨i0, hlt⟩, by decide, ?_⟩, fun hge => (all_getA adft _ _ (fun j hj => i2 j (by omega))).symm⟩
  rintro ⟨c, _⟩ _ ec
  simp only at ec ⊢
  refine ⟨fun hc => (all_notA adft _ _ i.toNat (by omega) (ec.symm.trans hc)).symm, fun hc => ⟨⟨by omega, by omega, fun j hj => ?_⟩, by omega⟩⟩
  by_cases hji : j < i.toNat
  · exact i2 j hji
  · rw [show j = i.toNat by omega]; exact ec.symm.trans hc
theorem h29 : c_name_May.ok Tryd.prog GL 29 := con_ok (H := {}) (mkEnv_ok (gl := GL) (l := [(39, conSem c_name_may)]) (q := []) (d := []) _ tyOk (by kernel_rfl) ⟨h39.call, trivial⟩ trivial trivial) (by kernel_rfl) (by kernel_rfl) (Eq.mp e29 k29)

end Go.Proofs.YtcaekpbmmbfeiaaDoor
end
section
/- Contracts. -/
namespace Go.Proofs.YtcaekpbmmbfeiaaDoor
open Go Go.Vc Go.Pl Go.Proofs
def c_r12_Alike : Con := { args := [.dat (.sl AT), .dat (.sl AT)], res := [.dat .bool], pre := fun x => x.1.length ≤ 1000000000 ∧ x.2.1.length ≤ 1000000000, post := fun x y => y.1 = decide (x.1 = x.2.1) }

end Go.Proofs.YtcaekpbmmbfeiaaDoor
end
section
/- Walks. -/
namespace Go.Proofs.YtcaekpbmmbfeiaaDoor
open Go Go.Vc Go.Pl Go.Proofs
set_option linter.unusedVariables false
set_option linter.unusedSimpArgs false
theorem adft_eq2 : Kd.dft (Kd.pair (Kd.int IntKind.i64) Kd.str) = adft := rfl
theorem eq_getD : ∀ {a b : List AttrT}, a.length = b.length → (∀ i, i < a.length → a.getD i adft = b.getD i adft) → a = b := fun {a b} h1 h2 => by
  apply List.ext_getElem h1
  intro i hi hj
  have := h2 i hi
  rwa [List.getD_eq_getElem?_getD, List.getD_eq_getElem?_getD, List.getElem?_eq_getElem hi, List.getElem?_eq_getElem hj] at this
theorem dec_not {p : Prop} {d : Decidable (¬ p)} (h : @decide (¬ p) d = false) : p := Classical.not_not.1 (of_decide_eq_false h)
end Go.Proofs.YtcaekpbmmbfeiaaDoor
end
section
/- Contracts. -/
namespace Go.Proofs.YtcaekpbmmbfeiaaDoor
open Go Go.Vc Go.Pl Go.Proofs
def c_law12_names : Con := { args := [], res := [.dat .bool], pre := fun _ => True, post := fun _ y => y.1 = true }
def c_law12_works : Con := { args := [], res := [.dat .bool], pre := fun _ => True, post := fun _ y => y.1 = true }



end Go.Proofs.YtcaekpbmmbfeiaaDoor
end
section
/- Walks. -/
namespace Go.Proofs.YtcaekpbmmbfeiaaDoor
open Go Go.Vc Go.Pl Go.Proofs
set_option linter.unusedVariables false
set_option linter.unusedSimpArgs false
theorem take_back {α : Type} (a c : List α) : List.take ((a.length : Int).toNat - 0) (List.drop 0 (a ++ c)) = a := by simp
theorem got_back (a : List AttrT) (x : AttrT) (d : AttrT) : ((a ++ [x]).getD (a.length : Int).toNat d) = x := by simp [List.getD_eq_getElem?_getD]
def t35 : Prop :=
  ∀ (x : Unit), True → True → true = true
theorem e35 : t35 = Con.vc c_law12_names GL (mkEnv ty [] [] [] [0]) {} Tryd.f35.ntmps Tryd.f35.results.toList (bodyOf Tryd.f35) := by kernel_rfl
theorem k35 : t35 := by
  unfold t35
  rintro _ hx hp
  rfl
theorem h35 : c_law12_names.ok Tryd.prog GL 35 := con_ok (H := {}) (mkEnv_ok (gl := GL) (l := []) (q := []) (d := []) _ tyOk (by kernel_rfl) trivial trivial trivial) (by kernel_rfl) (by kernel_rfl) (Eq.mp e35 k35)

def t16 : Prop :=
  ∀ (x : Unit), True → True → True ∧ (∀ (y : Bool × Unit), Kd.wf Kd.bool y.fst ∧ True → y.fst = mayN [((6 : Int), bs { data := #[(68 : UInt8), (69 : UInt8)] })] → (y.fst = true → True ∧ (∀ (y
  : Bool × Unit), Kd.wf Kd.bool y.fst ∧ True → y.fst = true → y.fst = true) ∧ True) ∧ (y.fst = !true → false = true)) ∧ True
theorem e16 : t16 = Con.vc c_law12_works GL (mkEnv ty [(29, conSem c_name_May), (35, conSem c_law12_names)] [] [] [0]) {} Tryd.f16.ntmps Tryd.f16.results.toList (bodyOf Tryd.f16) := by kernel_rfl
theorem k16 : t16 := by
  unfold t16
  rintro _ hx hp
  try dsimp +instances only [dft_int, dft_sl, dft_str]
  simp only [true_and, and_true, eq_self_iff_true, implies_true, reduceCtorEq, false_implies, true_implies, decide_eq_true_eq, decide_eq_false_iff_not, beq_self_eq_true, Bool.not_eq_true', ne_eq, Decidable.not_not, List.nil_append, List.length_singleton, List.length_cons, List.length_nil, Nat.zero_add, Nat.add_zero, Nat.mul_one, and_self, beq_iff_eq, Bool.not_true, Bool.not_false, Bool.not_eq_false', Bool.cond_false_right, Bool.and_eq_true, imp_self, Bool.not_eq_true, Bool.cond_true_left, Bool.or_eq_true]
  simp only [all_bool]
  rw [show bs { data := #[68, 69] } = [68, 69] by decide, may_de]
  intro h; cases h
theorem h16 : c_law12_works.ok Tryd.prog GL 16 := con_ok (H := {}) (mkEnv_ok (gl := GL) (l := [(29, conSem c_name_May), (35, conSem c_law12_names)]) (q := []) (d := []) _ tyOk (by kernel_rfl) ⟨h29.call, h35.call, trivial⟩ trivial trivial) (by kernel_rfl) (by kernel_rfl) (Eq.mp e16 k16)

noncomputable def i10 : CallSem := vcFn (mkEnv ty [] [] [] [0, 2]) {} Tryd.f10.ntmps Tryd.f10.results.toList (bodyOf Tryd.f10)
theorem i10_ok : CallOk Tryd.prog GL 10 i10 := inl_ok {} (mkEnv_ok (gl := GL) (l := []) (q := []) (d := []) _ tyOk (by kernel_rfl) trivial trivial trivial) (by kernel_rfl) (by kernel_rfl)

end Go.Proofs.YtcaekpbmmbfeiaaDoor
end
