import Derived.Test.YtiofbnlbfmbodaaGreatDoorZV07
set_option linter.unusedVariables false
set_option linter.unusedSimpArgs false
namespace Go.Pl
open Go.Vc
def letterD (c : Int) : Bool := decide (97 ≤ c ∧ c ≤ 122 ∨ 65 ≤ c ∧ c ≤ 90)
def digitD (c : Int) : Bool := decide (48 ≤ c ∧ c ≤ 57)
def lcharD (c : Int) : Bool := letterD c || digitD c || decide (c = 45)
def mcharD (c : Int) : Bool := letterD c || digitD c || decide (c = 46 ∨ c = 95 ∨ c = 43 ∨ c = 45)
def labelsD (l : List Int) : List (List Int) := splitA 46 [] l
def labelD (s : List Int) : Bool := decide (s ≠ [] ∧ s.length ≤ 63 ∧ s.getD 0 0 ≠ 45 ∧ s.getD (s.length - 1) 0 ≠ 45) && s.all lcharD
def lastD (l : List (List Int)) : List Int := l.getLastD []
def dnsD (s : List Int) : Bool := decide (s.length ≤ 253) && ((labelsD s).all labelD && !(lastD (labelsD s)).all digitD)
def wildD (s : List Int) : Bool := hasP [42, 46] s && (decide (s.length ≤ 253) && (decide (46 ∈ s.drop 2) && dnsD (s.drop 2)))
def dotsD : List Int → Bool
  | [] => false
  | [_] => false
  | a :: b :: l => decide (a = 46 ∧ b = 46) || dotsD (b :: l)
def localD (s : List Int) : Bool := decide (s ≠ [] ∧ s.length ≤ 64 ∧ s.getD 0 0 ≠ 46 ∧ s.getD (s.length - 1) 0 ≠ 46) && (!dotsD s && s.all mcharD)
def emailD (s : List Int) : Bool := (cutD 64 s).2.2 && (localD (cutD 64 s).1 && dnsD (cutD 64 s).2.1)
def ipD (s : List Int) : Bool := decide (s.length = 4 ∨ s.length = 16)
theorem idxS_dots : ∀ l : List Int, decide (0 ≤ idxS l [46, 46]) = dotsD l
  | [] => by simp [idxS, dotsD]
  | [a] => by simp [idxS, dotsD]
  | a :: b :: l => by
    have ih := idxS_dots (b :: l)
    have hg := idxS_ge (b :: l) [46, 46]
    have hp : ([46, 46] : List Int).isPrefixOf (a :: b :: l) = decide (a = 46 ∧ b = 46) := by
      rw [Bool.eq_iff_iff, decide_eq_true_eq]
      simp only [List.isPrefixOf, Bool.and_true, Bool.and_eq_true, beq_iff_eq]
      omega
    rw [idxS, dotsD, ← ih, hp]
    by_cases h : a = 46 ∧ b = 46
    . simp [h]
    . rw [decide_eq_false h]
      simp only [Bool.false_eq_true, if_false, Bool.false_or]
      split
      . rw [decide_eq_false (by omega), decide_eq_false (by omega)]
      . rw [decide_eq_true (by omega), decide_eq_true (by omega)]
theorem contains_one (l : List Int) (c : Int) : decide (0 ≤ idxS l [c]) = decide (c ∈ l) := by
  rw [idxS_one]
  exact decide_eq_decide.2 (idxB_mem l c)
theorem labels_cut (l : List Int) : labelsD l = (cutD 46 l).1 :: (if (cutD 46 l).2.2 then labelsD (cutD 46 l).2.1 else []) := split_cut 46 l
theorem last_snoc (P : List (List Int)) (w : List Int) : lastD (P ++ [w]) = w := by
  rw [lastD, List.getLastD_eq_getLast?]
  simp
theorem dns_bad {s w : List Int} (h : w ∈ labelsD s) (hw : labelD w = false) : dnsD s = false := by
  have : (labelsD s).all labelD = false := by
    rw [List.all_eq_false]
    exact ⟨w, h, by rw [hw]; decide⟩
  rw [dnsD, this]
  simp
theorem dns_long {s : List Int} (h : 253 < s.length) : dnsD s = false := by
  rw [dnsD, decide_eq_false (by omega)]; rfl
theorem dns_last {s : List Int} (h : s.length ≤ 253) (ha : (labelsD s).all labelD = true) : dnsD s = !(lastD (labelsD s)).all digitD := by
  rw [dnsD, ha, decide_eq_true h]
  simp
end Go.Pl
