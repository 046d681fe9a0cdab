import Derived.Test.YtiofbnlbfmbodaaGreatDoorZV07
set_option linter.unusedVariables false
set_option linter.unusedSimpArgs false
namespace Go.Pl
open Go.Vc
set_option linter.unusedVariables false
set_option linter.unusedSimpArgs false
def low (x : Int) : Nat → List Int
  | 0 => []
  | n + 1 => (x / 256 ^ n) % 256 :: low x n
def wide (x : Int) : Nat → Nat → Nat
  | _, 0 => 8
  | n, k + 1 => if -(2 ^ (8 * n - 1) : Int) ≤ x ∧ x < 2 ^ (8 * n - 1) then n else wide x (n + 1) k
def IntD (x : Int) : List Int := low x (wide x 1 7)
abbrev LIM : Nat := 2000000
def fit (x : Int) (n : Nat) : Prop := -(2 ^ (8 * n - 1) : Int) ≤ x ∧ x < 2 ^ (8 * n - 1)
theorem wide_eq (x : Int) (n : Nat) (h1 : 1 ≤ n) (h8 : n ≤ 8) (hf : fit x n) (hn : n = 1 ∨ ¬ fit x (n - 1)) : wide x 1 7 = n := by
  match n, h1, h8 with
  | 1, _, _ | 2, _, _ | 3, _, _ | 4, _, _ | 5, _, _ | 6, _, _ | 7, _, _ | 8, _, _ =>
    simp [fit] at hf hn
    simp only [wide]
    repeat' split
    all_goals first | rfl | (exfalso; simp at *; omega)
theorem low_drop (x : Int) (j : Nat) (hj : j ≤ 8) : (low x 8).drop j = low x (8 - j) := by
  match j, hj with
  | 0, _ | 1, _ | 2, _ | 3, _ | 4, _ | 5, _ | 6, _ | 7, _ | 8, _ => rfl
theorem nlow_len (x : Int) : ∀ n, (low x n).length = n
  | 0 => rfl
  | n + 1 => by simp [low, nlow_len x n]
theorem rest (x : Int) (j : Nat) (hj : j ≤ 7) (hf : fit x (8 - j)) (hn : j = 7 ∨ ¬ fit x (7 - j)) : ((low x 8).drop j).take (8 - j) = IntD x := by
  rw [low_drop x j (by omega), List.take_of_length_le (by rw [nlow_len]; exact Nat.le_refl _), IntD, wide_eq x (8 - j) (by omega) (by omega) hf]
  rcases hn with h | h
  . exact .inl (by omega)
  . exact .inr (by rw [show 8 - j - 1 = 7 - j by omega]; exact h)
def sx (a : Int) : Int := if 128 ≤ a then a - 256 else a
def acc (l : List Int) : Nat → Nat
  | 0 => 0
  | i + 1 => acc l i + if (l.getD (i / 8) 0).toNat / 2 ^ (7 - i % 8) % 2 = 1 then 2 ^ i else 0
end Go.Pl
