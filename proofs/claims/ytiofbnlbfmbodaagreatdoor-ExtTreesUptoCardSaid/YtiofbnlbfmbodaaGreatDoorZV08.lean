import Derived.Test.YtiofbnlbfmbodaaGreatDoorZV07
set_option linter.unusedVariables false
set_option linter.unusedSimpArgs false
namespace Go.Pl
open Go.Vc
abbrev AttrT : Type := Int × List Int
abbrev AT : Kd := .pair (.int .i64) .str
abbrev adft : AttrT := ((0 : Int), ([] : List Int))
def labelK (k : Int) : List Int :=
  if k = 3 then [67, 78] else if k = 5 then [83, 78] else if k = 6 then [67] else if k = 7 then [76] else if k = 8 then [83, 84] else if k = 10 then [79] else if k = 11 then [79, 85] else []
def capsD (s : List Int) : Bool := decide (s.length = 2 ∧ 65 ≤ s.getD 0 0 ∧ s.getD 0 0 ≤ 90 ∧ 65 ≤ s.getD 1 0 ∧ s.getD 1 0 ≤ 90)
def mayA (a : AttrT) : Bool :=
  decide (labelK a.1 ≠ [] ∧ a.2 ≠ [] ∧ a.2.length ≤ 64) && (mayD 12 a.2 && (if a.1 = 6 then capsD a.2 && mayD 19 a.2 else if a.1 = 5 then mayD 19 a.2 else true))
def mayN (n : List AttrT) : Bool := decide (n.length ≤ 16) && n.all mayA
end Go.Pl
