import Derived.Test.YtiofbnlbfmbodaaGreatDoorZV17
import Derived.Test.YtiofbnlbfmbodaaGreatDoorZV12
set_option linter.unusedVariables false
set_option linter.unusedSimpArgs false
namespace Go.Pl
open Go.Vc
set_option linter.unusedVariables false
set_option linter.unusedSimpArgs false
theorem wide_le (x : Int) : ∀ k n : Nat, n ≤ 8 → n + k ≤ 8 → wide x n k ≤ 8
  | 0, n, _, _ => by simp [wide]
  | k + 1, n, h, h' => by
    unfold wide
    split
    . exact h
    . exact wide_le x k (n + 1) (by omega) (by omega)
theorem int_len (x : Int) : (IntD x).length ≤ 8 := by
  rw [IntD, nlow_len]; exact wide_le x 7 1 (by omega) (by omega)
theorem flags_len (n : Nat) : (FlagsD n).length ≤ 3 := by
  unfold FlagsD
  split
  . simp
  split <;> simp
def caB (c : Bool) : List Int := if c = true then putB (1, [255]) else []
def pathB (n : Int) : List Int := if n = -1 then [] else putB (2, IntD n)
def BasicD (v : Bool × Int) : List Int × Int := if v.2 < -1 ∨ 100 < v.2 ∨ (v.1 = false ∧ v.2 ≠ -1) then ([], 150) else (putB (48, caB v.1 ++ pathB v.2), 0)
def UsageD (set : Int) : List Int × Int := if set = 0 ∨ 511 < set then ([], 150) else (putB (3, FlagsD set.toNat), 0)
def NumberD (n : Int) : List Int × Int := if n < 0 then ([], 150) else (putB (2, IntD n), 0)
def reasonK (n : Int) : Bool := decide (0 ≤ n) && (decide (n ≤ 10) && decide (n ≠ 7))
def ReasonD (n : Int) : List Int × Int := if reasonK n = false then ([], 150) else (putB (10, IntD n), 0)
def SubjectD (k : List Int) : List Int := putB (4, k)
def IssuerD (k : List Int) : List Int := putB (48, putB (128, k))
theorem ca_len (c : Bool) : (caB c).length ≤ 3 := by cases c <;> simp [caB, putB, lngD]
theorem path_len (n : Int) : (pathB n).length ≤ 10 := by
  unfold pathB
  split
  . simp
  . have := int_len n
    rw [put_small (x := (2, IntD n)) (by simp only; omega)]; simp only; omega
end Go.Pl
