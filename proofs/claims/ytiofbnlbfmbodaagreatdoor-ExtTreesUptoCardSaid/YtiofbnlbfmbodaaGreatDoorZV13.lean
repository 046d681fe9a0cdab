import Derived.Test.YtiofbnlbfmbodaaGreatDoorZV07
set_option linter.unusedVariables false
set_option linter.unusedSimpArgs false
namespace Go.Pl
open Go.Vc
def letterD (c : Int) : Bool := decide (97 ≤ c ∧ c ≤ 122 ∨ 65 ≤ c ∧ c ≤ 90)
def digitD (c : Int) : Bool := decide (48 ≤ c ∧ c ≤ 57)
def lcharD (c : Int) : Bool := letterD c || digitD c || decide (c = 45)
def mcharD (c : Int) : Bool := letterD c || digitD c || decide (c = 46 ∨ c = 95 ∨ c = 43 ∨ c = 45)
def labelsD (l : List Int) : List (List Int) := splitA 46 [] l
def labelD (s : List Int) : Bool := decide (s ≠ [] ∧ s.length ≤ 63 ∧ s.getD 0 0 ≠ 45 ∧ s.getD (s.length - 1) 0 ≠ 45) && s.all lcharD
def lastD (l : List (List Int)) : List Int := l.getLastD []
def dnsD (s : List Int) : Bool := decide (s.length ≤ 253) && ((labelsD s).all labelD && !(lastD (labelsD s)).all digitD)
def wildD (s : List Int) : Bool := hasP [42, 46] s && (decide (s.length ≤ 253) && (decide (46 ∈ s.drop 2) && dnsD (s.drop 2)))
def dotsD : List Int → Bool
  | [] => false
  | [_] => false
  | a :: b :: l => decide (a = 46 ∧ b = 46) || dotsD (b :: l)
def localD (s : List Int) : Bool := decide (s ≠ [] ∧ s.length ≤ 64 ∧ s.getD 0 0 ≠ 46 ∧ s.getD (s.length - 1) 0 ≠ 46) && (!dotsD s && s.all mcharD)
def emailD (s : List Int) : Bool := (cutD 64 s).2.2 && (localD (cutD 64 s).1 && dnsD (cutD 64 s).2.1)
def ipD (s : List Int) : Bool := decide (s.length = 4 ∨ s.length = 16)
theorem idxS_dots : ∀ l : List Int, decide (0 ≤ idxS l [46, 46]) = dotsD l
  | [] => by simp [idxS, dotsD]
  | [a] => by simp [idxS, dotsD]
  | a :: b :: l => by
    have ih := idxS_dots (b :: l)
    have hg := idxS_ge (b :: l) [46, 46]
    have hp : ([46, 46] : List Int).isPrefixOf (a :: b :: l) = decide (a = 46 ∧ b = 46) := by
      rw [Bool.eq_iff_iff, decide_eq_true_eq]
      simp only [List.isPrefixOf, Bool.and_true, Bool.and_eq_true, beq_iff_eq]
      omega
    rw [idxS, dotsD, ← ih, hp]
    by_cases h : a = 46 ∧ b = 46
    . simp [h]
    . rw [decide_eq_false h]
      simp only [Bool.false_eq_true, if_false, Bool.false_or]
      split
      . rw [decide_eq_false (by omega), decide_eq_false (by omega)]
      . rw [decide_eq_true (by omega), decide_eq_true (by omega)]
theorem contains_one (l : List Int) (c : Int) : decide (0 ≤ idxS l [c]) = decide (c ∈ l) := by
  rw [idxS_one]
  exact decide_eq_decide.2 (idxB_mem l c)
theorem labels_cut (l : List Int) : labelsD l = (cutD 46 l).1 :: (if (cutD 46 l).2.2 then labelsD (cutD 46 l).2.1 else []) := split_cut 46 l
theorem split_mem_len (d : Int) : ∀ (l cur w : List Int), w ∈ splitA d cur l → w.length ≤ cur.length + l.length
  | [], cur, w, h => by
    rw [splitA, List.mem_singleton] at h
    rw [h]; omega
  | c :: l, cur, w, h => by
    rw [splitA] at h
    rw [List.length_cons]
    split at h
    . rcases List.mem_cons.1 h with h | h
      . rw [h]; omega
      . have := split_mem_len d l [] w h
        simp at this
        omega
    . have := split_mem_len d l _ w h
      simp at this
      omega
theorem labelH_len {l w : List Int} (h : w ∈ labelsD l) : w.length ≤ l.length := by
  have := split_mem_len 46 l [] w h
  simpa using this
theorem labels_len (l : List Int) : (labelsD l).length ≤ l.length + 1 ∧ 1 ≤ (labelsD l).length := split_len 46 l []
theorem last_get (W : List (List Int)) (h : 1 ≤ W.length) : lastD W = W.getD (W.length - 1) [] := by
  rw [lastD, List.getLastD_eq_getLast?, List.getLast?_eq_getElem?, List.getD_eq_getElem?_getD]
theorem last_snoc (P : List (List Int)) (w : List Int) : lastD (P ++ [w]) = w := by
  rw [lastD, List.getLastD_eq_getLast?]
  simp
theorem dns_bad {s w : List Int} (h : w ∈ labelsD s) (hw : labelD w = false) : dnsD s = false := by
  have : (labelsD s).all labelD = false := by
    rw [List.all_eq_false]
    exact ⟨w, h, by rw [hw]; decide⟩
  rw [dnsD, this]
  simp
theorem dns_long {s : List Int} (h : 253 < s.length) : dnsD s = false := by
  rw [dnsD, decide_eq_false (by omega)]; rfl
theorem dns_last {s : List Int} (h : s.length ≤ 253) (ha : (labelsD s).all labelD = true) : dnsD s = !(lastD (labelsD s)).all digitD := by
  rw [dnsD, ha, decide_eq_true h]
  simp
theorem dots_iff : ∀ l : List Int, dotsD l = true ↔ ∃ j, j + 1 < l.length ∧ l.getD j 0 = 46 ∧ l.getD (j + 1) 0 = 46
  | [] => by simp [dotsD]
  | [a] => by simp [dotsD]
  | a :: b :: l => by
    rw [dotsD, Bool.or_eq_true, decide_eq_true_eq, dots_iff (b :: l)]
    constructor
    . rintro (⟨h1, h2⟩ | ⟨j, h1, h2, h3⟩)
      . exact ⟨0, by simp, h1, h2⟩
      . refine ⟨j + 1, by simp at h1 ⊢; omega, ?_, ?_⟩
        . simpa using h2
        . simpa using h3
    . rintro ⟨j, h1, h2, h3⟩
      cases j with
      | zero => exact .inl ⟨h2, h3⟩
      | succ j =>
        refine .inr ⟨j, by simp at h1 ⊢; omega, ?_, ?_⟩
        . simpa using h2
        . simpa using h3
theorem email_none {l : List Int} (h : 64 ∉ l) : emailD l = false := by
  rw [emailD, cutD_none h]; rfl
theorem email_at {l : List Int} {n : Nat} (hn : n < l.length) (h64 : l.getD n 0 = 64) (hb : ∀ j, j < n → l.getD j 0 ≠ 64) : emailD l = (localD (l.take n) && dnsD (l.drop (n + 1))) := by
  have e : l = l.take n ++ 64 :: l.drop (n + 1) := by
    rw [← h64, ← drop_cons l n hn, List.take_append_drop]
  have hm : (64 : Int) ∉ l.take n := by
    intro hc
    obtain ⟨j, hj, hx⟩ := List.getElem_of_mem hc
    rw [List.length_take] at hj
    refine hb j (by omega) ?_
    rw [List.getD_eq_getElem?_getD, List.getElem?_eq_getElem (by omega)]
    rw [List.getElem_take] at hx
    exact hx
  have hcut := cutD_app (l.take n) (l.drop (n + 1)) 64 hm
  rw [← e] at hcut
  rw [emailD, hcut]; rfl
end Go.Pl
