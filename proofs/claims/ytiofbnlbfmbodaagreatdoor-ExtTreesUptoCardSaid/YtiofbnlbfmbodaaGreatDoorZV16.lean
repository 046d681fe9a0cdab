import Derived.Test.YtiofbnlbfmbodaaGreatDoorZV15
import Derived.Test.YtiofbnlbfmbodaaGreatDoorZV14
set_option linter.unusedVariables false
set_option linter.unusedSimpArgs false
namespace Go.Pl
open Go.Vc
set_option linter.unusedVariables false
set_option linter.unusedSimpArgs false
def nbit (s : List Int) (i : Nat) : Bool := decide (s.getD (i / 8) 0 / 2 ^ (7 - i % 8) % 2 = 1)
def okM (m b : List Int) (i : Nat) : Bool := if nbit m i then !(decide (0 < i) && !nbit m (i - 1)) else !nbit b i
def maskD (s : List Int) : Bool := decide (s.length = 8 ∨ s.length = 32) && (List.range (8 * (s.length / 2))).all (okM (s.drop (s.length / 2)) s)
def mayT (k : Int) (b : List Int) : Bool :=
  if k = 1 then (if hasP [46] b then dnsD (b.drop 1) else emailD b || dnsD b) else if k = 2 then dnsD b else if k = 4 then namedD b else if k = 7 then maskD b else false
def firstT (p : Int × List Int → Bool) : List (Int × List Int) → Nat → Int
  | [], _ => -1
  | t :: l, i => if p t then (i : Int) else firstT p l (i + 1)
theorem range_step (p : Nat → Bool) (n : Nat) : (List.range (n + 1)).all p = ((List.range n).all p && p n) := by rw [List.range_succ, List.all_append]; simp
theorem range_bad {p : Nat → Bool} {i n : Nat} (h : i < n) (hp : p i = false) : (List.range n).all p = false := by
  cases e : (List.range n).all p
  . rfl
  . have := List.all_eq_true.1 e i (List.mem_range.2 h)
    rw [hp] at this
    cases this
theorem mail_dot {b : List Int} (h : hasP [46] b = true) : emailD b = false := by
  obtain ⟨r, rfl⟩ := hasP_iff.1 h
  unfold emailD
  have e : cutD 64 ([46] ++ r) = (46 :: (cutD 64 r).1, (cutD 64 r).2.1, (cutD 64 r).2.2) := by
    rw [List.cons_append, List.nil_append, cutD]
    simp
  rw [e]
  have : localD (46 :: (cutD 64 r).1) = false := by
    unfold localD
    simp
  simp only [this, Bool.false_and, Bool.and_false]
theorem bys_gd {l : List Int} (h : Bys l) (i : Nat) : 0 ≤ l.getD i 0 ∧ l.getD i 0 ≤ 255 := by
  by_cases hi : i < l.length
  . rw [List.getD_eq_getElem?_getD, List.getElem?_eq_getElem hi]
    exact h _ (List.getElem_mem hi)
  . rw [List.getD_eq_getElem?_getD, List.getElem?_eq_none (by omega)]
    decide
end Go.Pl
