import Derived.Test.YtgnlcpoeepfdoaaGreatDoorZV06
set_option linter.unusedVariables false
set_option linter.unusedSimpArgs false
namespace Go.Pl
open Go.Vc
abbrev AttrT : Type := Int × List Int
abbrev AT : Kd := .pair (.int .i64) .str
abbrev adft : AttrT := ((0 : Int), ([] : List Int))
def sameA (a b : AttrT) : Bool := decide (a.1 = b.1) && decide (foldD a.2 = foldD b.2)
def beginsD : List AttrT → List AttrT → Bool
  | _, [] => true
  | [], _ :: _ => false
  | a :: u, b :: v => sameA a b && beginsD u v
def labelK (k : Int) : List Int :=
  if k = 3 then [67, 78] else if k = 5 then [83, 78] else if k = 6 then [67] else if k = 7 then [76] else if k = 8 then [83, 84] else if k = 10 then [79] else if k = 11 then [79, 85] else []
def capsD (s : List Int) : Bool := decide (s.length = 2 ∧ 65 ≤ s.getD 0 0 ∧ s.getD 0 0 ≤ 90 ∧ 65 ≤ s.getD 1 0 ∧ s.getD 1 0 ≤ 90)
def mayA (a : AttrT) : Bool :=
  decide (labelK a.1 ≠ [] ∧ a.2 ≠ [] ∧ a.2.length ≤ 64) && (mayD 12 a.2 && (if a.1 = 6 then capsD a.2 && mayD 19 a.2 else if a.1 = 5 then mayD 19 a.2 else true))
def mayN (n : List AttrT) : Bool := decide (n.length ≤ 16) && n.all mayA
theorem begins_iff : ∀ a b : List AttrT, beginsD a b = true ↔ b.length ≤ a.length ∧ ∀ i, i < b.length → sameA (a.getD i adft) (b.getD i adft) = true
  | _, [] => by simp [beginsD]
  | [], b :: v => by simp [beginsD]
  | a :: u, b :: v => by
    rw [beginsD, Bool.and_eq_true, begins_iff u v]
    simp only [List.length_cons]
    constructor
    . rintro ⟨h1, h2, h3⟩
      refine ⟨by omega, fun i hi => ?_⟩
      cases i with
      | zero => exact h1
      | succ i => exact h3 i (by omega)
    . rintro ⟨h1, h2⟩
      exact ⟨h2 0 (by omega), by omega, fun i hi => h2 (i + 1) (by omega)⟩
end Go.Pl
