/- Texts of a verified walk, led together: Oid, NamP. -/
import Derived.Test.YtiofbnlbfmbodaaGreatDoorZV07
import Derived.Lib.ItoaNum
import Derived.Lib.Join
import Derived.Lib.AtoiTie
import Derived.Test.YtiofbnlbfmbodaaGreatDoorZV08
set_option linter.unusedVariables false
set_option linter.unusedSimpArgs false
section
namespace Go.Pl
open Go.Vc
set_option linter.unusedVariables false
set_option linter.unusedSimpArgs false
def inArc (a : Int) : Bool := decide (0 ≤ a) && decide (a ≤ 2147483647)
def mayO (l : List Int) : Bool :=
  decide (2 ≤ l.length) && decide (l.length ≤ 20) && l.all inArc && (if l.getD 0 0 < 2 then decide (l.getD 1 0 < 40) else if l.getD 0 0 = 2 then decide (l.getD 1 0 ≤ 2147483567) else false)
def hiD : Nat → Int → List Int
  | 0, _ => []
  | k + 1, n => (128 + n / 128 ^ (k + 1) % 128) :: hiD k n
def hiN (n : Int) : Nat := if n < 128 then 0 else if n < 16384 then 1 else if n < 2097152 then 2 else if n < 268435456 then 3 else 4
def numO (n : Int) : List Int := hiD (hiN n) n ++ [n % 128]
def encO (l : List Int) : List Int := numO (40 * l.getD 0 0 + l.getD 1 0) ++ (l.drop 2).flatMap numO
def EncO (l : List Int) : List Int × Int := if mayO l then (encO l, 0) else ([], 2)
theorem may_args {l : List Int} (h : mayO l = true) : 2 ≤ l.length ∧ l.length ≤ 20 ∧ (∀ a ∈ l, 0 ≤ a ∧ a ≤ 2147483647) ∧ 0 ≤ 40 * l.getD 0 0 + l.getD 1 0 ∧ 40 * l.getD 0 0 + l.getD 1 0 ≤ 2147483647 := by
  simp only [mayO, Bool.and_eq_true, decide_eq_true_eq, List.all_eq_true, inArc] at h
  obtain ⟨⟨⟨h1, h2⟩, h3⟩, h4⟩ := h
  have m0 : l.getD 0 0 ∈ l := by
    rw [List.getD_eq_getElem?_getD, List.getElem?_eq_getElem (show 0 < l.length by omega)]
    exact List.getElem_mem _
  have m1 : l.getD 1 0 ∈ l := by
    rw [List.getD_eq_getElem?_getD, List.getElem?_eq_getElem (show 1 < l.length by omega)]
    exact List.getElem_mem _
  have g0 := h3 _ m0
  have g1 := h3 _ m1
  refine ⟨h1, h2, h3, by omega, ?_⟩
  split at h4
  . have := of_decide_eq_true h4; omega
  . split at h4
    . have := of_decide_eq_true h4; omega
    . cases h4
theorem hi_bounds (n : Int) (h : 0 ≤ n) (hn : n ≤ 2147483647) : n / 128 ^ (hiN n) < 128 ∧ (0 < hiN n → 0 < n / 128 ^ hiN n) ∧ hiN n ≤ 4 := by
  unfold hiN
  split
  . exact ⟨by simp; omega, by omega, by omega⟩
  . split
    . exact ⟨by simp; omega, by simp; omega, by omega⟩
    . split
      . exact ⟨by simp; omega, by simp; omega, by omega⟩
      . split
        . exact ⟨by simp; omega, by simp; omega, by omega⟩
        . exact ⟨by simp; omega, by simp; omega, by omega⟩
theorem hi_is {n : Int} {k : Nat} (h : 0 ≤ n) (hk : k ≤ 4) (h1 : n / 128 ^ k < 128) (h2 : 0 < k → 0 < n / 128 ^ k) : hiN n = k := by
  unfold hiN
  have : k = 0 ∨ k = 1 ∨ k = 2 ∨ k = 3 ∨ k = 4 := by omega
  rcases this with rfl | rfl | rfl | rfl | rfl
  . simp at h1; rw [if_pos h1]
  . simp at h1 h2; rw [if_neg (by omega), if_pos (by omega)]
  . simp at h1 h2; rw [if_neg (by omega), if_neg (by omega), if_pos (by omega)]
  . simp at h1 h2; rw [if_neg (by omega), if_neg (by omega), if_neg (by omega), if_pos (by omega)]
  . simp at h1 h2; rw [if_neg (by omega), if_neg (by omega), if_neg (by omega), if_neg (by omega)]
theorem may_len {l : List Int} (h : (l.length : Int) < 2 ∨ 20 < (l.length : Int)) : mayO l = false := by
  cases hm : mayO l with
  | false => rfl
  | true => have := may_args hm; omega
theorem may_in {l : List Int} {i : Nat} (hi : i < l.length) (h : l.getD i 0 < 0 ∨ 2147483647 < l.getD i 0) : mayO l = false := by
  cases hm : mayO l with
  | false => rfl
  | true =>
    have := (may_args hm).2.2.1 (l.getD i 0) (by
      rw [List.getD_eq_getElem?_getD, List.getElem?_eq_getElem hi]
      exact List.getElem_mem _)
    omega
theorem may_rest {l : List Int} (h1 : 2 ≤ l.length) (h2 : l.length ≤ 20) (h3 : ∀ j, j < l.length → 0 ≤ l.getD j 0 ∧ l.getD j 0 ≤ 2147483647) :
    mayO l = (if l.getD 0 0 < 2 then decide (l.getD 1 0 < 40) else if l.getD 0 0 = 2 then decide (l.getD 1 0 ≤ 2147483567) else false) := by
  have ha : l.all inArc = true := by
    rw [List.all_eq_true]
    intro a ha
    obtain ⟨i, hi, e⟩ := List.mem_iff_getElem.1 ha
    have := h3 i hi
    rw [List.getD_eq_getElem?_getD, List.getElem?_eq_getElem hi] at this
    simp only [Option.getD_some, e] at this
    simp only [inArc, Bool.and_eq_true, decide_eq_true_eq]
    exact this
  rw [mayO, decide_eq_true h1, decide_eq_true h2, ha]
  simp
theorem hi_length : ∀ (k : Nat) (n : Int), (hiD k n).length = k
  | 0, _ => rfl
  | k + 1, n => by rw [hiD, List.length_cons, hi_length k n]
theorem hiN_le (n : Int) : hiN n ≤ 4 := by
  unfold hiN
  split
  . omega
  split
  . omega
  split
  . omega
  split <;> omega
theorem num_length (n : Int) : (numO n).length ≤ 5 ∧ 1 ≤ (numO n).length := by
  rw [numO, List.length_append, hi_length]
  have := hiN_le n
  simp
  omega
theorem pow_div (n : Int) (j : Nat) (hj : j ≤ 4) : n / 128 ^ (j + 1) = n / 128 ^ j / 128 := by
  have : j = 0 ∨ j = 1 ∨ j = 2 ∨ j = 3 ∨ j = 4 := by omega
  rcases this with rfl | rfl | rfl | rfl | rfl <;> simp only [Nat.reduceAdd, Int.reducePow] <;> omega
theorem small4 {n : Int} (hn : n ≤ 2147483647) : n / 128 ^ 4 ≤ 7 := by simp only [Int.reducePow]; omega
theorem wrap_u8 (m : Int) : IntKind.wrap .u8 m = m % 256 := by simp [IntKind.wrap, IntKind.signed, IntKind.bits]
def encP (l : List Int) (i : Nat) : List Int := numO (40 * l.getD 0 0 + l.getD 1 0) ++ ((l.take i).drop 2).flatMap numO
theorem encP_two (l : List Int) : encP l 2 = numO (40 * l.getD 0 0 + l.getD 1 0) := by
  unfold encP
  rw [List.drop_eq_nil_of_le (by simp; omega)]
  simp
theorem encP_all {l : List Int} {i : Nat} (h : l.length ≤ i) : encP l i = encO l := by
  unfold encP encO
  rw [List.take_of_length_le h]
theorem encP_step {l : List Int} {i : Nat} (h2 : 2 ≤ i) (h : i < l.length) : encP l (i + 1) = encP l i ++ numO (l.getD i 0) := by
  unfold encP
  have e : l.take (i + 1) = l.take i ++ [l.getD i 0] := by
    rw [List.take_add_one, List.getD_eq_getElem?_getD, List.getElem?_eq_getElem h]
    rfl
  rw [e, List.drop_append_of_le_length (by simp; omega), List.flatMap_append]
  simp [List.append_assoc]
theorem encP_len (l : List Int) : ∀ i, (encP l i).length ≤ 5 + 5 * i
  | 0 => by
    have h := num_length (40 * l.getD 0 0 + l.getD 1 0)
    unfold encP
    rw [List.take_zero, List.drop_nil, List.flatMap_nil, List.append_nil]
    omega
  | i + 1 => by
    by_cases h2 : 2 ≤ i
    . by_cases h : i < l.length
      . have := encP_len l i
        have := num_length (l.getD i 0)
        rw [encP_step h2 h, List.length_append]
        omega
      . rw [encP_all (by omega), ← encP_all (l := l) (i := i) (by omega)]
        have := encP_len l i
        omega
    . have : encP l (i + 1) = numO (40 * l.getD 0 0 + l.getD 1 0) := by
        unfold encP
        rw [List.drop_eq_nil_of_le (by simp; omega)]
        simp
      rw [this]
      have := num_length (40 * l.getD 0 0 + l.getD 1 0)
      omega
end Go.Pl
end
section
namespace Go.Pl
open Go.Vc
set_option linter.unusedVariables false
set_option linter.unusedSimpArgs false
def noC : List Int → Bool
  | [] => true
  | [c] => decide (c ≠ 44)
  | c :: d :: l => if c = 92 then noC l else decide (c ≠ 44) && noC (d :: l)
theorem label_cases (k : Int) : (k = 3 ∧ labelK k = [67, 78]) ∨ (k = 5 ∧ labelK k = [83, 78]) ∨ (k = 6 ∧ labelK k = [67]) ∨ (k = 7 ∧ labelK k = [76]) ∨ (k = 8 ∧ labelK k = [83, 84]) ∨ (k = 10 ∧ labelK k = [79]) ∨ (k = 11 ∧ labelK k = [79, 85]) ∨ labelK k = [] := by
  by_cases h1 : k = 3
  . subst h1; exact .inl ⟨rfl, rfl⟩
  by_cases h2 : k = 5
  . subst h2; exact .inr (.inl ⟨rfl, rfl⟩)
  by_cases h3 : k = 6
  . subst h3; exact .inr (.inr (.inl ⟨rfl, rfl⟩))
  by_cases h4 : k = 7
  . subst h4; exact .inr (.inr (.inr (.inl ⟨rfl, rfl⟩)))
  by_cases h5 : k = 8
  . subst h5; exact .inr (.inr (.inr (.inr (.inl ⟨rfl, rfl⟩))))
  by_cases h6 : k = 10
  . subst h6; exact .inr (.inr (.inr (.inr (.inr (.inl ⟨rfl, rfl⟩)))))
  by_cases h7 : k = 11
  . subst h7; exact .inr (.inr (.inr (.inr (.inr (.inr (.inl ⟨rfl, rfl⟩))))))
  . refine .inr (.inr (.inr (.inr (.inr (.inr (.inr ?_))))))
    rw [labelK, if_neg h1, if_neg h2, if_neg h3, if_neg h4, if_neg h5, if_neg h6, if_neg h7]
def Whole (cur : List Int) : Prop := ∀ t, noC (cur ++ t) = noC t
theorem mayA_label {a : AttrT} (h : mayA a = true) : labelK a.1 ≠ [] := by
  simp only [mayA, Bool.and_eq_true, decide_eq_true_eq] at h
  exact h.1.1
theorem mayA_len {a : AttrT} (h : mayA a = true) : a.2.length ≤ 64 := by
  simp only [mayA, Bool.and_eq_true, decide_eq_true_eq] at h
  exact h.1.2.2
theorem mayN_args {m : List AttrT} (h : mayN m = true) : m.length ≤ 16 ∧ ∀ a ∈ m, mayA a = true := by
  simp only [mayN, Bool.and_eq_true, decide_eq_true_eq, List.all_eq_true] at h
  exact h
theorem mayN_of {m : List AttrT} (h1 : m.length ≤ 16) (h2 : ∀ a ∈ m, mayA a = true) : mayN m = true := by
  simp only [mayN, Bool.and_eq_true, decide_eq_true_eq, List.all_eq_true]
  exact ⟨h1, h2⟩
theorem labels12 {k : Int} (h0 : 0 ≤ k) (h1 : k < 12) : ([[], [], [], [67, 78], [], [83, 78], [67], [76], [83, 84], [], [79], [79, 85]] : List (List Int)).getD k.toNat [] = labelK k := by
  have : k = 0 ∨ k = 1 ∨ k = 2 ∨ k = 3 ∨ k = 4 ∨ k = 5 ∨ k = 6 ∨ k = 7 ∨ k = 8 ∨ k = 9 ∨ k = 10 ∨ k = 11 := by omega
  rcases this with rfl | rfl | rfl | rfl | rfl | rfl | rfl | rfl | rfl | rfl | rfl | rfl <;> rfl
theorem label_out {k : Int} (h : k < 0 ∨ 12 ≤ k) : labelK k = [] := by
  rcases label_cases k with ⟨e, _⟩ | ⟨e, _⟩ | ⟨e, _⟩ | ⟨e, _⟩ | ⟨e, _⟩ | ⟨e, _⟩ | ⟨e, _⟩ | e
  all_goals first | exact e | omega
theorem caps_prints (v : List Int) : (capsD v && mayD 19 v) = capsD v := by
  cases h : capsD v with
  | false => rfl
  | true =>
    simp only [capsD, decide_eq_true_eq] at h
    obtain ⟨h0, h1, h2, h3, h4⟩ := h
    match v, h0 with
    | [a, b], _ =>
      simp only [List.getD_cons_zero, List.getD_cons_succ] at h1 h2 h3 h4
      have key : ∀ c : Int, 65 ≤ c → c ≤ 90 → printsD c = true := fun c hc1 hc2 => by
        have : c = 65 ∨ c = 66 ∨ c = 67 ∨ c = 68 ∨ c = 69 ∨ c = 70 ∨ c = 71 ∨ c = 72 ∨ c = 73 ∨ c = 74 ∨ c = 75 ∨ c = 76 ∨ c = 77 ∨ c = 78 ∨ c = 79 ∨ c = 80 ∨ c = 81 ∨ c = 82 ∨ c = 83 ∨ c = 84 ∨ c = 85 ∨ c = 86 ∨ c = 87 ∨ c = 88 ∨ c = 89 ∨ c = 90 := by omega
        rcases this with rfl | rfl | rfl | rfl | rfl | rfl | rfl | rfl | rfl | rfl | rfl | rfl | rfl | rfl | rfl | rfl | rfl | rfl | rfl | rfl | rfl | rfl | rfl | rfl | rfl | rfl <;> decide
      have ka := key a h1 h2
      have kb := key b h3 h4
      simp [mayD, ka, kb]
end Go.Pl
end
