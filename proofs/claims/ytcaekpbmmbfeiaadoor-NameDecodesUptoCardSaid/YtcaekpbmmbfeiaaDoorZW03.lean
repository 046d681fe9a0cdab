/- Texts of a verified walk, led together: NampA, NampW. -/
import Derived.Test.YtcaekpbmmbfeiaaDoorZW02
import Derived.Test.YtcaekpbmmbfeiaaDoorZV08
set_option linter.unusedVariables false
set_option linter.unusedSimpArgs false
section
/- Contracts. -/
namespace Go.Proofs.YtcaekpbmmbfeiaaDoor
open Go Go.Vc Go.Pl Go.Proofs
def c_name_plain : Con := { args := [.dat .str], res := [.dat .str, .dat .bool], pre := fun x => x.1.length ≤ 1000000000, post := fun x y => (y.1, y.2.1) = PlainD x.1 }
def c_name_typeOf : Con := { args := [.dat .str], res := [.dat I64], pre := fun _ => True, post := fun x y => y.1 = typK x.1 }
def c_name_Parse : Con := { args := [.dat .str], res := [.own 56 AT, .dat I64], pre := fun x => x.1.length ≤ 10000000, post := fun x y => parN x.1 y.1 y.2.1 = true }
def c_r12_Label : Con := { args := [.dat I64], res := [.dat .str], pre := fun _ => True, post := fun x y => y.1 = labelK x.1 }
def c_r12_MayAttr : Con := { args := [.dat AT], res := [.dat .bool], pre := fun x => x.1.2.length ≤ 100000000, post := fun x y => y.1 = mayA x.1 }
def c_r12_May : Con := { args := [.dat (.sl AT)], res := [.dat .bool], pre := fun x => x.1.length ≤ 1000000000 ∧ ∀ a ∈ x.1, a.2.length ≤ 100000000, post := fun x y => y.1 = mayN x.1 }
def c_r12_Text : Con := { args := [.dat (.sl AT)], res := [.dat .str, .dat I64], pre := fun x => x.1.length ≤ 1000000000 ∧ ∀ a ∈ x.1, a.2.length ≤ 100000000, post := fun x y => (y.1, y.2.1) = TextN x.1 }
def c_r12_Parts : Con := { args := [.dat .str], res := [.own 9 .str], pre := fun x => x.1.length ≤ 10000000, post := fun x y => y.1 = partsE x.1 }
def c_r12_Parse : Con := { args := [.dat .str], res := [.own 56 AT, .dat I64], pre := fun x => x.1.length ≤ 10000000, post := fun x y => parN x.1 y.1 y.2.1 = true }

end Go.Proofs.YtcaekpbmmbfeiaaDoor
end
section
/- Walks. -/
namespace Go.Proofs.YtcaekpbmmbfeiaaDoor
open Go Go.Vc Go.Pl Go.Proofs
set_option linter.unusedVariables false
set_option linter.unusedSimpArgs false
theorem adft_eq3 : Kd.dft (Kd.pair (Kd.int IntKind.i64) Kd.str) = adft := rfl
def t40 : Prop :=
  ∀ (x : Int × Unit), Kd.wf (Kd.int IntKind.i64) x.fst ∧ True → True → (decide (x.fst < (0 : Int)) = false → True) ∧ (decide (x.fst < (0 : Int)) = false → True) ∧ (decide (x.fst < (0 : Int))
  = false → (decide (x.fst < (0 : Int)) == false) = true ∧ True) ∧ (decide (x.fst < (0 : Int)) = false → (decide (x.fst < (0 : Int)) == false) = true ∧ (decide (x.fst < (0 : Int)) == false) =
  true ∧ True) ∧ (decide (x.fst < (0 : Int)) = false → (decide (x.fst < (0 : Int)) == false) = true) ∧ ((bif decide (x.fst < (0 : Int)) then true else decide ((↑(12 : Nat) : Int) ≤ x.fst)) =
  true → bs { data := #[] } = labelK x.fst) ∧ ((bif decide (x.fst < (0 : Int)) then true else decide ((↑(12 : Nat) : Int) ≤ x.fst)) = false → ((0 : Int) ≤ x.fst ∧ x.fst < (↑(12 : Nat) : Int))
  ∧ List.getD [bs { data := #[] }, bs { data := #[] }, bs { data := #[] }, bs { data := #[(67 : UInt8), (78 : UInt8)] }, bs { data := #[] }, bs { data := #[(83 : UInt8), (78 : UInt8)] }, bs {
  data := #[(67 : UInt8)] }, bs { data := #[(76 : UInt8)] }, bs { data := #[(83 : UInt8), (84 : UInt8)] }, bs { data := #[] }, bs { data := #[(79 : UInt8)] }, bs { data := #[(79 : UInt8), (85
  : UInt8)] }] (Int.toNat x.fst) (Kd.dft Kd.str) = labelK x.fst)
theorem e40 : t40 = Con.vc c_r12_Label GL (mkEnv ty [] [] [] [0, 2, 3, 12]) {} Tryd.f40.ntmps Tryd.f40.results.toList (bodyOf Tryd.f40) := by kernel_rfl
theorem k40 : t40 := by
  unfold t40
  rintro ⟨k, _⟩ hx hp
  try dsimp +instances only [dft_int, dft_sl, dft_str]
  simp only [true_and, and_true, eq_self_iff_true, implies_true, reduceCtorEq, false_implies, true_implies, decide_eq_true_eq, decide_eq_false_iff_not, beq_self_eq_true, Bool.not_eq_true', ne_eq, Decidable.not_not, List.nil_append, List.length_singleton, List.length_cons, List.length_nil, Nat.zero_add, Nat.add_zero, Nat.mul_one, and_self, beq_iff_eq, Bool.not_true, Bool.not_false, Bool.not_eq_false', Bool.cond_false_right, Bool.and_eq_true, imp_self, Bool.not_eq_true, Bool.cond_true_left, Bool.or_eq_true]
  rw [bs_nil, show bs { data := #[67, 78] } = [67, 78] by decide, show bs { data := #[83, 78] } = [83, 78] by decide, show bs { data := #[67] } = [67] by decide, show bs { data := #[76] } = [76] by decide, show bs { data := #[83, 84] } = [83, 84] by decide, show bs { data := #[79] } = [79] by decide, show bs { data := #[79, 85] } = [79, 85] by decide]
  refine ⟨fun h => (label_out (by omega)).symm, fun h => ?_⟩
  simp only [Bool.or_eq_false_iff, decide_eq_false_iff_not] at h
  exact ⟨⟨by omega, by omega⟩, labels12 (by omega) (by omega)⟩
theorem h40 : c_r12_Label.ok Tryd.prog GL 40 := con_ok (H := {}) (mkEnv_ok (gl := GL) (l := []) (q := []) (d := []) _ tyOk (by kernel_rfl) trivial trivial trivial) (by kernel_rfl) (by kernel_rfl) (Eq.mp e40 k40)

def t56 : Prop :=
  ∀ (x : (Int × List Int) × Unit), Kd.wf (Kd.pair (Kd.int IntKind.i64) Kd.str) x.fst ∧ True → List.length x.fst.snd ≤ (100000000 : Nat) → List.length [SV.dat (Kd.int IntKind.i64) x.fst.fst,
  SV.dat Kd.str x.fst.snd] ≤ (65536 : Nat) ∧ True ∧ (∀ (y : List Int × Unit), Kd.wf Kd.str y.fst ∧ True → y.fst = labelK x.fst.fst → (decide (y.fst = bs { data := #[] }) = false → True) ∧
  (decide (y.fst = bs { data := #[] }) = false → (decide (y.fst = bs { data := #[] }) == false) = true ∧ True) ∧ (decide (y.fst = bs { data := #[] }) = false → (decide (y.fst = bs { data :=
  #[] }) == false) = true ∧ True) ∧ (decide (y.fst = bs { data := #[] }) = false → (decide (y.fst = bs { data := #[] }) == false) = true ∧ True) ∧ (decide (y.fst = bs { data := #[] }) = false
  → (decide (y.fst = bs { data := #[] }) == false) = true) ∧ ((bif decide (y.fst = bs { data := #[] }) then true else decide ((↑(List.length x.fst.snd) : Int) < (1 : Int))) = false → True) ∧
  ((bif decide (y.fst = bs { data := #[] }) then true else decide ((↑(List.length x.fst.snd) : Int) < (1 : Int))) = false → ((bif decide (y.fst = bs { data := #[] }) then true else decide
  ((↑(List.length x.fst.snd) : Int) < (1 : Int))) == false) = true ∧ True) ∧ ((bif decide (y.fst = bs { data := #[] }) then true else decide ((↑(List.length x.fst.snd) : Int) < (1 : Int))) =
  false → ((bif decide (y.fst = bs { data := #[] }) then true else decide ((↑(List.length x.fst.snd) : Int) < (1 : Int))) == false) = true ∧ True) ∧ ((bif decide (y.fst = bs { data := #[] })
  then true else decide ((↑(List.length x.fst.snd) : Int) < (1 : Int))) = false → ((bif decide (y.fst = bs { data := #[] }) then true else decide ((↑(List.length x.fst.snd) : Int) < (1 :
  Int))) == false) = true ∧ True) ∧ ((bif decide (y.fst = bs { data := #[] }) then true else decide ((↑(List.length x.fst.snd) : Int) < (1 : Int))) = false → ((bif decide (y.fst = bs { data
  := #[] }) then true else decide ((↑(List.length x.fst.snd) : Int) < (1 : Int))) == false) = true) ∧ ((bif bif decide (y.fst = bs { data := #[] }) then true else decide ((↑(List.length
  x.fst.snd) : Int) < (1 : Int)) then true else decide ((64 : Int) < (↑(List.length x.fst.snd) : Int))) = false → True) ∧ ((bif bif decide (y.fst = bs { data := #[] }) then true else decide
  ((↑(List.length x.fst.snd) : Int) < (1 : Int)) then true else decide ((64 : Int) < (↑(List.length x.fst.snd) : Int))) = false → ((bif bif decide (y.fst = bs { data := #[] }) then true else
  decide ((↑(List.length x.fst.snd) : Int) < (1 : Int)) then true else decide ((64 : Int) < (↑(List.length x.fst.snd) : Int))) == false) = true ∧ True) ∧ ((bif bif decide (y.fst = bs { data
  := #[] }) then true else decide ((↑(List.length x.fst.snd) : Int) < (1 : Int)) then true else decide ((64 : Int) < (↑(List.length x.fst.snd) : Int))) = false → ((bif bif decide (y.fst = bs
  { data := #[] }) then true else decide ((↑(List.length x.fst.snd) : Int) < (1 : Int)) then true else decide ((64 : Int) < (↑(List.length x.fst.snd) : Int))) == false) = true ∧ List.length
  x.fst.snd ≤ (1000000000 : Nat) ∧ (∀ (y : Bool × Unit), Kd.wf Kd.bool y.fst ∧ True → y.fst = mayD (12 : Int) x.fst.snd → ((!y.fst) = true → false = mayA x.fst) ∧ ((!y.fst) = false → (decide
  (x.fst.fst = (5 : Int)) = true → List.length x.fst.snd ≤ (1000000000 : Nat) ∧ (∀ (y : Bool × Unit), Kd.wf Kd.bool y.fst ∧ True → y.fst = mayD (19 : Int) x.fst.snd → y.fst = mayA x.fst) ∧
  True) ∧ (decide (x.fst.fst = (5 : Int)) = false → (decide (x.fst.fst = (6 : Int)) = true → (decide ((↑(List.length x.fst.snd) : Int) = (2 : Int)) = true → True) ∧ (decide ((↑(List.length
  x.fst.snd) : Int) = (2 : Int)) = true → (decide ((↑(List.length x.fst.snd) : Int) = (2 : Int)) == true) = true ∧ True) ∧ (decide ((↑(List.length x.fst.snd) : Int) = (2 : Int)) = true →
  (decide ((↑(List.length x.fst.snd) : Int) = (2 : Int)) == true) = true ∧ ((0 : Int) ≤ (0 : Int) ∧ (0 : Int) < (↑(List.length x.fst.snd) : Int)) ∧ True) ∧ (decide ((↑(List.length x.fst.snd)
  : Int) = (2 : Int)) = true → (decide ((↑(List.length x.fst.snd) : Int) = (2 : Int)) == true) = true ∧ True) ∧ (decide ((↑(List.length x.fst.snd) : Int) = (2 : Int)) = true → (decide
  ((↑(List.length x.fst.snd) : Int) = (2 : Int)) == true) = true) ∧ ((bif decide ((↑(List.length x.fst.snd) : Int) = (2 : Int)) then decide ((65 : Int) ≤ List.getD x.fst.snd (0 : Nat) (0 :
  Int)) else false) = true → True) ∧ ((bif decide ((↑(List.length x.fst.snd) : Int) = (2 : Int)) then decide ((65 : Int) ≤ List.getD x.fst.snd (0 : Nat) (0 : Int)) else false) = true → ((bif
  decide ((↑(List.length x.fst.snd) : Int) = (2 : Int)) then decide ((65 : Int) ≤ List.getD x.fst.snd (0 : Nat) (0 : Int)) else false) == true) = true ∧ True) ∧ ((bif decide ((↑(List.length
  x.fst.snd) : Int) = (2 : Int)) then decide ((65 : Int) ≤ List.getD x.fst.snd (0 : Nat) (0 : Int)) else false) = true → ((bif decide ((↑(List.length x.fst.snd) : Int) = (2 : Int)) then
  decide ((65 : Int) ≤ List.getD x.fst.snd (0 : Nat) (0 : Int)) else false) == true) = true ∧ ((0 : Int) ≤ (0 : Int) ∧ (0 : Int) < (↑(List.length x.fst.snd) : Int)) ∧ True) ∧ ((bif decide
  ((↑(List.length x.fst.snd) : Int) = (2 : Int)) then decide ((65 : Int) ≤ List.getD x.fst.snd (0 : Nat) (0 : Int)) else false) = true → ((bif decide ((↑(List.length x.fst.snd) : Int) = (2 :
  Int)) then decide ((65 : Int) ≤ List.getD x.fst.snd (0 : Nat) (0 : Int)) else false) == true) = true ∧ True) ∧ ((bif decide ((↑(List.length x.fst.snd) : Int) = (2 : Int)) then decide ((65 :
  Int) ≤ List.getD x.fst.snd (0 : Nat) (0 : Int)) else false) = true → ((bif decide ((↑(List.length x.fst.snd) : Int) = (2 : Int)) then decide ((65 : Int) ≤ List.getD x.fst.snd (0 : Nat) (0 :
  Int)) else false) == true) = true) ∧ ((bif bif decide ((↑(List.length x.fst.snd) : Int) = (2 : Int)) then decide ((65 : Int) ≤ List.getD x.fst.snd (0 : Nat) (0 : Int)) else false then
  decide (List.getD x.fst.snd (0 : Nat) (0 : Int) ≤ (90 : Int)) else false) = true → True) ∧ ((bif bif decide ((↑(List.length x.fst.snd) : Int) = (2 : Int)) then decide ((65 : Int) ≤
  List.getD x.fst.snd (0 : Nat) (0 : Int)) else false then decide (List.getD x.fst.snd (0 : Nat) (0 : Int) ≤ (90 : Int)) else false) = true → ((bif bif decide ((↑(List.length x.fst.snd) :
  Int) = (2 : Int)) then decide ((65 : Int) ≤ List.getD x.fst.snd (0 : Nat) (0 : Int)) else false then decide (List.getD x.fst.snd (0 : Nat) (0 : Int) ≤ (90 : Int)) else false) == true) =
  true ∧ True) ∧ ((bif bif decide ((↑(List.length x.fst.snd) : Int) = (2 : Int)) then decide ((65 : Int) ≤ List.getD x.fst.snd (0 : Nat) (0 : Int)) else false then decide (List.getD x.fst.snd
  (0 : Nat) (0 : Int) ≤ (90 : Int)) else false) = true → ((bif bif decide ((↑(List.length x.fst.snd) : Int) = (2 : Int)) then decide ((65 : Int) ≤ List.getD x.fst.snd (0 : Nat) (0 : Int))
  else false then decide (List.getD x.fst.snd (0 : Nat) (0 : Int) ≤ (90 : Int)) else false) == true) = true ∧ ((0 : Int) ≤ (1 : Int) ∧ (1 : Int) < (↑(List.length x.fst.snd) : Int)) ∧ True) ∧
  ((bif bif decide ((↑(List.length x.fst.snd) : Int) = (2 : Int)) then decide ((65 : Int) ≤ List.getD x.fst.snd (0 : Nat) (0 : Int)) else false then decide (List.getD x.fst.snd (0 : Nat) (0 :
  Int) ≤ (90 : Int)) else false) = true → ((bif bif decide ((↑(List.length x.fst.snd) : Int) = (2 : Int)) then decide ((65 : Int) ≤ List.getD x.fst.snd (0 : Nat) (0 : Int)) else false then
  decide (List.getD x.fst.snd (0 : Nat) (0 : Int) ≤ (90 : Int)) else false) == true) = true ∧ True) ∧ ((bif bif decide ((↑(List.length x.fst.snd) : Int) = (2 : Int)) then decide ((65 : Int) ≤
  List.getD x.fst.snd (0 : Nat) (0 : Int)) else false then decide (List.getD x.fst.snd (0 : Nat) (0 : Int) ≤ (90 : Int)) else false) = true → ((bif bif decide ((↑(List.length x.fst.snd) :
  Int) = (2 : Int)) then decide ((65 : Int) ≤ List.getD x.fst.snd (0 : Nat) (0 : Int)) else false then decide (List.getD x.fst.snd (0 : Nat) (0 : Int) ≤ (90 : Int)) else false) == true) =
  true) ∧ ((bif bif bif decide ((↑(List.length x.fst.snd) : Int) = (2 : Int)) then decide ((65 : Int) ≤ List.getD x.fst.snd (0 : Nat) (0 : Int)) else false then decide (List.getD x.fst.snd (0
  : Nat) (0 : Int) ≤ (90 : Int)) else false then decide ((65 : Int) ≤ List.getD x.fst.snd (1 : Nat) (0 : Int)) else false) = true → True) ∧ ((bif bif bif decide ((↑(List.length x.fst.snd) :
  Int) = (2 : Int)) then decide ((65 : Int) ≤ List.getD x.fst.snd (0 : Nat) (0 : Int)) else false then decide (List.getD x.fst.snd (0 : Nat) (0 : Int) ≤ (90 : Int)) else false then decide
  ((65 : Int) ≤ List.getD x.fst.snd (1 : Nat) (0 : Int)) else false) = true → ((bif bif bif decide ((↑(List.length x.fst.snd) : Int) = (2 : Int)) then decide ((65 : Int) ≤ List.getD x.fst.snd
  (0 : Nat) (0 : Int)) else false then decide (List.getD x.fst.snd (0 : Nat) (0 : Int) ≤ (90 : Int)) else false then decide ((65 : Int) ≤ List.getD x.fst.snd (1 : Nat) (0 : Int)) else false)
  == true) = true ∧ True) ∧ ((bif bif bif decide ((↑(List.length x.fst.snd) : Int) = (2 : Int)) then decide ((65 : Int) ≤ List.getD x.fst.snd (0 : Nat) (0 : Int)) else false then decide
  (List.getD x.fst.snd (0 : Nat) (0 : Int) ≤ (90 : Int)) else false then decide ((65 : Int) ≤ List.getD x.fst.snd (1 : Nat) (0 : Int)) else false) = true → ((bif bif bif decide
  ((↑(List.length x.fst.snd) : Int) = (2 : Int)) then decide ((65 : Int) ≤ List.getD x.fst.snd (0 : Nat) (0 : Int)) else false then decide (List.getD x.fst.snd (0 : Nat) (0 : Int) ≤ (90 :
  Int)) else false then decide ((65 : Int) ≤ List.getD x.fst.snd (1 : Nat) (0 : Int)) else false) == true) = true ∧ ((0 : Int) ≤ (1 : Int) ∧ (1 : Int) < (↑(List.length x.fst.snd) : Int)) ∧
  True) ∧ ((bif bif bif decide ((↑(List.length x.fst.snd) : Int) = (2 : Int)) then decide ((65 : Int) ≤ List.getD x.fst.snd (0 : Nat) (0 : Int)) else false then decide (List.getD x.fst.snd (0
  : Nat) (0 : Int) ≤ (90 : Int)) else false then decide ((65 : Int) ≤ List.getD x.fst.snd (1 : Nat) (0 : Int)) else false) = true → ((bif bif bif decide ((↑(List.length x.fst.snd) : Int) = (2
  : Int)) then decide ((65 : Int) ≤ List.getD x.fst.snd (0 : Nat) (0 : Int)) else false then decide (List.getD x.fst.snd (0 : Nat) (0 : Int) ≤ (90 : Int)) else false then decide ((65 : Int) ≤
  List.getD x.fst.snd (1 : Nat) (0 : Int)) else false) == true) = true ∧ True) ∧ ((bif bif bif decide ((↑(List.length x.fst.snd) : Int) = (2 : Int)) then decide ((65 : Int) ≤ List.getD
  x.fst.snd (0 : Nat) (0 : Int)) else false then decide (List.getD x.fst.snd (0 : Nat) (0 : Int) ≤ (90 : Int)) else false then decide ((65 : Int) ≤ List.getD x.fst.snd (1 : Nat) (0 : Int))
  else false) = true → ((bif bif bif decide ((↑(List.length x.fst.snd) : Int) = (2 : Int)) then decide ((65 : Int) ≤ List.getD x.fst.snd (0 : Nat) (0 : Int)) else false then decide (List.getD
  x.fst.snd (0 : Nat) (0 : Int) ≤ (90 : Int)) else false then decide ((65 : Int) ≤ List.getD x.fst.snd (1 : Nat) (0 : Int)) else false) == true) = true) ∧ (bif bif bif bif decide
  ((↑(List.length x.fst.snd) : Int) = (2 : Int)) then decide ((65 : Int) ≤ List.getD x.fst.snd (0 : Nat) (0 : Int)) else false then decide (List.getD x.fst.snd (0 : Nat) (0 : Int) ≤ (90 :
  Int)) else false then decide ((65 : Int) ≤ List.getD x.fst.snd (1 : Nat) (0 : Int)) else false then decide (List.getD x.fst.snd (1 : Nat) (0 : Int) ≤ (90 : Int)) else false) = mayA x.fst) ∧
  (decide (x.fst.fst = (6 : Int)) = false → true = mayA x.fst)))) ∧ True) ∧ ((bif bif decide (y.fst = bs { data := #[] }) then true else decide ((↑(List.length x.fst.snd) : Int) < (1 : Int))
  then true else decide ((64 : Int) < (↑(List.length x.fst.snd) : Int))) = !false → false = mayA x.fst)) ∧ True
theorem e56 : t56 = Con.vc c_r12_MayAttr GL (mkEnv ty [(40, conSem c_r12_Label), (75, conSem c_r05_May)] [] [] [0, 1, 2, 24, 27, 33]) {} Tryd.f56.ntmps Tryd.f56.results.toList (bodyOf Tryd.f56) := by kernel_rfl
theorem k56 : t56 := by
  unfold t56
  rintro ⟨⟨k, v⟩, _⟩ hx hp
  have hp : v.length ≤ 100000000 := hp
  try dsimp +instances only [dft_int, dft_sl, dft_str]
  simp only [true_and, and_true, eq_self_iff_true, implies_true, reduceCtorEq, false_implies, true_implies, decide_eq_true_eq, decide_eq_false_iff_not, beq_self_eq_true, Bool.not_eq_true', ne_eq, Decidable.not_not, List.nil_append, List.length_singleton, List.length_cons, List.length_nil, Nat.zero_add, Nat.add_zero, Nat.mul_one, and_self, beq_iff_eq, Bool.not_true, Bool.not_false, Bool.not_eq_false', Bool.cond_false_right, Bool.and_eq_true, imp_self, Bool.not_eq_true, Bool.cond_true_left, Bool.or_eq_true]
  rw [bs_nil]
  refine ⟨by decide, ?_⟩
  rintro ⟨a, _⟩ _ ea
  simp only at ea ⊢
  subst ea
  have hv : v = [] ↔ v.length = 0 := ⟨fun h => by rw [h]; rfl, List.eq_nil_of_length_eq_zero⟩
  simp only [Bool.or_eq_false_iff, decide_eq_false_iff_not]
  refine ⟨fun h => ⟨h, by omega, ?_⟩, fun h => ?_⟩
  · have hM : mayA (k, v) = (mayD 12 v && (if k = 6 then capsD v && mayD 19 v else if k = 5 then mayD 19 v else true)) := by
      rw [mayA, decide_eq_true ⟨h.1.1, fun e => h.1.2 (by rw [hv.1 e]; decide), by simp only; omega⟩]; rfl
    rintro ⟨b, _⟩ _ eb
    simp only at eb ⊢
    rw [hM, ← eb]
    refine ⟨fun hb => by rw [hb]; rfl, fun hb => ?_⟩
    rw [hb]
    refine ⟨fun hk => ⟨by omega, ?_⟩, fun hk => ⟨fun hk6 => ⟨fun h => ⟨h, by decide, by omega⟩, fun h => ⟨h, by decide, by omega⟩, fun h => ⟨h, by decide, by omega⟩, fun h => ⟨h, by decide, by omega⟩, ?_⟩, fun hk6 => by rw [if_neg hk6, if_neg hk]; rfl⟩⟩
    · rintro ⟨d, _⟩ _ ed
      simp only at ed ⊢
      rw [if_neg (by omega), if_pos hk, ed]; rfl
    · rw [if_pos hk6, caps_prints v, Bool.true_and, Bool.eq_iff_iff, capsD]
      simp only [Bool.and_eq_true, decide_eq_true_eq]
      omega
  · have key : ¬ (labelK k ≠ [] ∧ v ≠ [] ∧ v.length ≤ 64) := by
      rintro ⟨h1, h2, h3⟩
      rcases h with (h | h) | h
      · exact h1 h
      · exact h2 (hv.2 (by omega))
      · omega
    rw [mayA]
    simp only
    rw [decide_eq_false key]; rfl
theorem h56 : c_r12_MayAttr.ok Tryd.prog GL 56 := con_ok (H := {}) (mkEnv_ok (gl := GL) (l := [(40, conSem c_r12_Label), (75, conSem c_r05_May)]) (q := []) (d := []) _ tyOk (by kernel_rfl) ⟨h40.call, h75.call, trivial⟩ trivial trivial) (by kernel_rfl) (by kernel_rfl) (Eq.mp e56 k56)

def t30 : Prop :=
  ∀ (x : List (Int × List Int) × Unit), Kd.wf (Kd.sl (Kd.pair (Kd.int IntKind.i64) Kd.str)) x.fst ∧ True → (List.length x.fst ≤ (1000000000 : Nat) ∧ ∀ (a : Int × List Int), a ∈ x.fst →
  List.length a.snd ≤ (100000000 : Nat)) → ∃ (I : Int × Bool × Unit → Unit → Prop), ∃ (μ : Int × Bool × Unit → Unit → Nat), (x.fst = x.fst ∧ I ((0 : Int), false, ()) ()) ∧ ∀ (y : Int × Bool ×
  Unit) (z : Unit), Kd.wf (Kd.int IntKind.i64) y.fst ∧ Kd.wf Kd.bool y.snd.fst ∧ True → True → I y z → (decide (y.fst < (↑(List.length x.fst) : Int)) = true → ((0 : Int) ≤ y.fst ∧ y.fst <
  (↑(List.length x.fst) : Int)) ∧ List.length (List.getD x.fst (Int.toNat y.fst) (Kd.dft (Kd.pair (Kd.int IntKind.i64) Kd.str))).snd ≤ (100000000 : Nat) ∧ (∀ (y_1 : Bool × Unit), Kd.wf
  Kd.bool y_1.fst ∧ True → y_1.fst = mayA (List.getD x.fst (Int.toNat y.fst) (Kd.dft (Kd.pair (Kd.int IntKind.i64) Kd.str))) → ((!y_1.fst) = true → false = mayN x.fst) ∧ ((!y_1.fst) = false →
  x.fst = x.fst ∧ I (IntKind.wrap IntKind.i64 (y.fst + (1 : Int)), y.snd.fst, ()) () ∧ μ (IntKind.wrap IntKind.i64 (y.fst + (1 : Int)), y.snd.fst, ()) () < μ y z)) ∧ True) ∧ (decide (y.fst <
  (↑(List.length x.fst) : Int)) = false → decide ((↑(List.length x.fst) : Int) ≤ (16 : Int)) = mayN x.fst)
theorem e30 : t30 = Con.vc c_r12_May GL (mkEnv ty [(56, conSem c_r12_MayAttr)] [] [] [0, 2, 3, 7, 15]) {} Tryd.f30.ntmps Tryd.f30.results.toList (bodyOf Tryd.f30) := by kernel_rfl
theorem k30 : t30 := by
  unfold t30
  rintro ⟨l, _⟩ hx hp
  obtain ⟨h1, h2⟩ := hp
  simp only at h1 h2
  try dsimp +instances only [dft_int, dft_sl, dft_str]
  simp only [true_and, and_true, eq_self_iff_true, implies_true, reduceCtorEq, false_implies, true_implies, decide_eq_true_eq, decide_eq_false_iff_not, beq_self_eq_true, Bool.not_eq_true', ne_eq, Decidable.not_not, List.nil_append, List.length_singleton, List.length_cons, List.length_nil, Nat.zero_add, Nat.add_zero, Nat.mul_one, and_self, beq_iff_eq, Bool.not_true, Bool.not_false, Bool.not_eq_false', Bool.cond_false_right, Bool.and_eq_true, imp_self, Bool.not_eq_true, Bool.cond_true_left, Bool.or_eq_true]
  simp only [adft_eq3]
  refine ⟨fun y _ => 0 ≤ y.1 ∧ y.1 ≤ l.length ∧ ∀ j, j < y.1.toNat → mayA (l.getD j adft) = true, fun y _ => ((l.length : Int) - y.1).toNat, ⟨Int.le_refl 0, by simp only; omega, fun j hj => by simp at hj⟩, ?_⟩
  rintro ⟨i, b, _⟩ _ _ ⟨i0, i1, i2⟩
  simp only at i0 i1 i2 ⊢
  refine ⟨fun hlt => ⟨⟨i0, hlt⟩, h2 _ (mem_getD adft l _ (by omega)), ?_⟩, fun hge => ?_⟩
  · rintro ⟨c, _⟩ _ ec
    simp only at ec ⊢
    rw [wrapK (i + 1) (by omega) (by omega)]
    refine ⟨fun hc => ?_, fun hc => ⟨⟨by omega, by omega, fun j hj => ?_⟩, by omega⟩⟩
    · rw [mayN, all_notA adft _ _ i.toNat (by omega) (ec.symm.trans hc), Bool.and_false]
    by_cases hji : j < i.toNat
    · exact i2 j hji
    · rw [show j = i.toNat by omega]; exact ec.symm.trans hc
  · rw [mayN, all_getA adft _ _ (fun j hj => i2 j (by omega)), Bool.and_true]
    exact decide_eq_decide.2 (by omega)
theorem h30 : c_r12_May.ok Tryd.prog GL 30 := con_ok (H := {}) (mkEnv_ok (gl := GL) (l := [(56, conSem c_r12_MayAttr)]) (q := []) (d := []) _ tyOk (by kernel_rfl) ⟨h56.call, trivial⟩ trivial trivial) (by kernel_rfl) (by kernel_rfl) (Eq.mp e30 k30)

def t22 : Prop :=
  ∀ (x : List Int × Unit), Kd.wf Kd.str x.fst ∧ True → List.length x.fst ≤ (10000000 : Nat) → ∃ (I : Int × Int × Unit → List (List Int) × Unit → Prop), ∃ (μ : Int × Int × Unit → List (List
  Int) × Unit → Nat), (Value.slice none (0 : Nat) (0 : Nat) = Value.slice none (0 : Nat) (0 : Nat) ∧ x.fst = x.fst ∧ I ((0 : Int), (0 : Int), ()) ([], ())) ∧ ∀ (y : Int × Int × Unit) (z :
  List (List Int) × Unit), Kd.wf (Kd.int IntKind.i64) y.fst ∧ Kd.wf (Kd.int IntKind.i64) y.snd.fst ∧ True → Kd.wf (Kd.sl Kd.str) z.fst ∧ True → I y z → (decide (y.fst < (↑(List.length x.fst)
  : Int)) = true → ((0 : Int) ≤ y.fst ∧ y.fst < (↑(List.length x.fst) : Int)) ∧ (decide (List.getD x.fst (Int.toNat y.fst) (0 : Int) = (92 : Int)) = true → Value.slice none (0 : Nat) (0 :
  Nat) = Value.slice none (0 : Nat) (0 : Nat) ∧ x.fst = x.fst ∧ I (IntKind.wrap IntKind.i64 (y.fst + (2 : Int)), y.snd.fst, ()) (z.fst, ()) ∧ μ (IntKind.wrap IntKind.i64 (y.fst + (2 : Int)),
  y.snd.fst, ()) (z.fst, ()) < μ y z) ∧ (decide (List.getD x.fst (Int.toNat y.fst) (0 : Int) = (92 : Int)) = false → ((0 : Int) ≤ y.fst ∧ y.fst < (↑(List.length x.fst) : Int)) ∧ (decide
  (List.getD x.fst (Int.toNat y.fst) (0 : Int) = (44 : Int)) = true → ((0 : Int) ≤ y.snd.fst ∧ y.snd.fst ≤ y.fst ∧ y.fst ≤ (↑(List.length x.fst) : Int)) ∧ (0 : Nat) < (1 : Nat) ∧ (List.length
  z.fst + List.length [List.drop (Int.toNat y.snd.fst) (List.take (Int.toNat y.fst) x.fst)]) * (16 : Nat) ≤ (140737488355328 : Nat) ∧ List.length z.fst + List.length [List.drop (Int.toNat
  y.snd.fst) (List.take (Int.toNat y.fst) x.fst)] ≤ (9223372036854775807 : Nat) ∧ Value.slice none (0 : Nat) (0 : Nat) = Value.slice none (0 : Nat) (0 : Nat) ∧ x.fst = x.fst ∧ I (IntKind.wrap
  IntKind.i64 (y.fst + (1 : Int)), IntKind.wrap IntKind.i64 (y.fst + (1 : Int)), ()) (z.fst ++ [List.drop (Int.toNat y.snd.fst) (List.take (Int.toNat y.fst) x.fst)], ()) ∧ μ (IntKind.wrap
  IntKind.i64 (y.fst + (1 : Int)), IntKind.wrap IntKind.i64 (y.fst + (1 : Int)), ()) (z.fst ++ [List.drop (Int.toNat y.snd.fst) (List.take (Int.toNat y.fst) x.fst)], ()) < μ y z) ∧ (decide
  (List.getD x.fst (Int.toNat y.fst) (0 : Int) = (44 : Int)) = false → Value.slice none (0 : Nat) (0 : Nat) = Value.slice none (0 : Nat) (0 : Nat) ∧ x.fst = x.fst ∧ I (IntKind.wrap
  IntKind.i64 (y.fst + (1 : Int)), y.snd.fst, ()) (z.fst, ()) ∧ μ (IntKind.wrap IntKind.i64 (y.fst + (1 : Int)), y.snd.fst, ()) (z.fst, ()) < μ y z))) ∧ (decide (y.fst < (↑(List.length x.fst)
  : Int)) = false → ((0 : Int) ≤ y.snd.fst ∧ y.snd.fst ≤ (↑(List.length x.fst) : Int)) ∧ (0 : Nat) < (1 : Nat) ∧ (List.length z.fst + List.length [List.drop (Int.toNat y.snd.fst) x.fst]) *
  (16 : Nat) ≤ (140737488355328 : Nat) ∧ List.length z.fst + List.length [List.drop (Int.toNat y.snd.fst) x.fst] ≤ (9223372036854775807 : Nat) ∧ z.fst ++ [List.drop (Int.toNat y.snd.fst)
  x.fst] = partsE x.fst)
theorem e22 : t22 = Con.vc c_r12_Parts GL (mkEnv ty [] [] [] [0, 2, 3, 4, 5, 9, 13, 19]) {} Tryd.f22.ntmps Tryd.f22.results.toList (bodyOf Tryd.f22) := by kernel_rfl
theorem k22 : t22 := by
  unfold t22
  rintro ⟨s, _⟩ hx hp
  have hp : s.length ≤ 10000000 := hp
  try dsimp +instances only [dft_int, dft_sl, dft_str]
  simp only [true_and, and_true, eq_self_iff_true, implies_true, reduceCtorEq, false_implies, true_implies, decide_eq_true_eq, decide_eq_false_iff_not, beq_self_eq_true, Bool.not_eq_true', ne_eq, Decidable.not_not, List.nil_append, List.length_singleton, List.length_cons, List.length_nil, Nat.zero_add, Nat.add_zero, Nat.mul_one, and_self, beq_iff_eq, Bool.not_true, Bool.not_false, Bool.not_eq_false', Bool.cond_false_right, Bool.and_eq_true, imp_self, Bool.not_eq_true, Bool.cond_true_left, Bool.or_eq_true]
  refine ⟨fun y z => 0 ≤ y.1 ∧ y.1 ≤ s.length + 1 ∧ 0 ≤ y.2.1 ∧ y.2.1 ≤ y.1 ∧ y.2.1 ≤ s.length ∧ (z.1 : List (List Int)).length ≤ y.1 ∧ partsE s = z.1 ++ pcs s y.2.1.toNat y.1.toNat, fun y _ => ((s.length : Int) + 1 - y.1).toNat, ⟨Int.le_refl 0, by simp only; omega, Int.le_refl 0, Int.le_refl 0, by simp only; omega, by simp, rfl⟩, ?_⟩
  rintro ⟨i, f, _⟩ ⟨z, _⟩ _ _ ⟨i0, i1, f0, f1, f2, hz, e⟩
  simp only at i0 i1 f0 f1 f2 hz e ⊢
  refine ⟨fun hlt => ⟨⟨i0, hlt⟩, fun hc => ?_, fun hc => ⟨⟨i0, hlt⟩, fun h4 => ?_, fun h4 => ?_⟩⟩, fun hge => ?_⟩
  · rw [wrapK (i + 2) (by omega) (by omega)]
    refine ⟨⟨by omega, by omega, f0, by omega, f2, by omega, ?_⟩, by omega⟩
    rw [e, pcs_two (by omega) (by omega) hc, show i.toNat + 2 = (i + 2).toNat by omega]
  · rw [wrapK (i + 1) (by omega) (by omega)]
    refine ⟨⟨f0, f1, by omega⟩, by decide, by omega, by omega, ⟨by omega, by omega, by omega, by omega, by omega, by rw [List.length_append, List.length_singleton]; omega, ?_⟩, by omega⟩
    rw [e, pcs_comma (by omega) h4, show i.toNat + 1 = (i + 1).toNat by omega]
    simp
  · rw [wrapK (i + 1) (by omega) (by omega)]
    refine ⟨⟨by omega, by omega, f0, by omega, f2, by omega, ?_⟩, by omega⟩
    rw [e, pcs_one (by omega) (by omega) h4 hc, show i.toNat + 1 = (i + 1).toNat by omega]
  · refine ⟨⟨f0, f2⟩, by decide, by omega, by omega, ?_⟩
    rw [e, pcs_end (by omega)]
theorem h22 : c_r12_Parts.ok Tryd.prog GL 22 := con_ok (H := {}) (mkEnv_ok (gl := GL) (l := []) (q := []) (d := []) _ tyOk (by kernel_rfl) trivial trivial trivial) (by kernel_rfl) (by kernel_rfl) (Eq.mp e22 k22)

end Go.Proofs.YtcaekpbmmbfeiaaDoor
end
