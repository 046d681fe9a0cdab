/- Texts of a verified walk, led together: Text, Name, Oid, NamP, OidD, NamE, Ext. -/
import Derived.Test.YtiofbnlbfmbodaaZV06
import Derived.Lib.DecodeNEq
import Derived.Lib.ItoaNum
import Derived.Lib.Join
import Derived.Lib.AtoiTie
import Derived.Test.YtiofbnlbfmbodaaZV07
set_option linter.unusedVariables false
set_option linter.unusedSimpArgs false
section
namespace Go.Pl
open Go.Vc
set_option linter.unusedVariables false
set_option linter.unusedSimpArgs false
def chw (l : List Int) (i : Nat) : Nat := if (udec l i).1 = 65533 ∧ (udec l i).2 = 1 then 0 else (udec l i).2
theorem chw_dec {l : List Int} {i : Nat} (h : i < l.length ∧ chw l i ≠ 0) : l.length - (i + chw l i) < l.length - i := by omega
def vld (l : List Int) (i : Nat) : Nat := if h : i < l.length ∧ chw l i ≠ 0 then vld l (i + chw l i) else i
termination_by l.length - i
decreasing_by exact chw_dec h
def printsD (c : Int) : Bool := decide ((97 ≤ c ∧ c ≤ 122) ∨ (65 ≤ c ∧ c ≤ 90) ∨ (48 ≤ c ∧ c ≤ 57) ∨ c ∈ [32, 39, 40, 41, 43, 44, 45, 46, 47, 58, 61, 63])
def mayD (k : Int) (l : List Int) : Bool :=
  if 4096 < l.length then false else if k = 12 then decide (vld l 0 = l.length) else if k = 19 then l.all printsD else if k = 22 then l.all (fun c => decide (c < 128)) else false
def kindD (l : List Int) : Int × Int := if mayD 19 l then (19, 0) else if mayD 12 l then (12, 0) else (0, 50)
end Go.Pl
end
section
namespace Go.Pl
open Go.Vc
abbrev AttrT : Type := Int × List Int
def labelK (k : Int) : List Int :=
  if k = 3 then [67, 78] else if k = 5 then [83, 78] else if k = 6 then [67] else if k = 7 then [76] else if k = 8 then [83, 84] else if k = 10 then [79] else if k = 11 then [79, 85] else []
def capsD (s : List Int) : Bool := decide (s.length = 2 ∧ 65 ≤ s.getD 0 0 ∧ s.getD 0 0 ≤ 90 ∧ 65 ≤ s.getD 1 0 ∧ s.getD 1 0 ≤ 90)
def mayA (a : AttrT) : Bool :=
  decide (labelK a.1 ≠ [] ∧ a.2 ≠ [] ∧ a.2.length ≤ 64) && (mayD 12 a.2 && (if a.1 = 6 then capsD a.2 && mayD 19 a.2 else if a.1 = 5 then mayD 19 a.2 else true))
end Go.Pl
end
section
namespace Go.Pl
open Go.Vc
set_option linter.unusedVariables false
set_option linter.unusedSimpArgs false
end Go.Pl
end
section
namespace Go.Pl
open Go.Vc
set_option linter.unusedVariables false
set_option linter.unusedSimpArgs false
def noC : List Int → Bool
  | [] => true
  | [c] => decide (c ≠ 44)
  | c :: d :: l => if c = 92 then noC l else decide (c ≠ 44) && noC (d :: l)
def Whole (cur : List Int) : Prop := ∀ t, noC (cur ++ t) = noC t
theorem mayA_len {a : AttrT} (h : mayA a = true) : a.2.length ≤ 64 := by
  simp only [mayA, Bool.and_eq_true, decide_eq_true_eq] at h
  exact h.1.2.2
end Go.Pl
end
section
namespace Go.Pl
open Go.Vc
set_option linter.unusedVariables false
set_option linter.unusedSimpArgs false
end Go.Pl
end
section
namespace Go.Pl
open Go.Vc
set_option linter.unusedVariables false
set_option linter.unusedSimpArgs false
def elK (a : AttrT) : EltT := ((kindD a.2).1, a.2)
def attrB (a : AttrT) : List Int := putB (48, putB (6, [85, 4, a.1]) ++ putB (elK a))
def attrE (a : AttrT) : List Int := putB (49, attrB a)
theorem lng_small {n : Int} (h : n < 128) : lngD n = [n] := by rw [lngD, if_pos h]
theorem put_small {x : EltT} (h : x.2.length < 128) : (putB x).length = 2 + x.2.length := by
  rw [put_len, lng_small (by omega)]; simp
theorem attrB_len {a : AttrT} (h : mayA a = true) : (attrB a).length ≤ 73 := by
  have hv := mayA_len h
  have e1 : (putB (6, [85, 4, a.1])).length = 5 := put_small (x := (6, [85, 4, a.1])) (by simp)
  have e2 : (putB (elK a)).length = 2 + a.2.length := put_small (x := elK a) (by show a.2.length < 128; omega)
  have e3 := put_small (x := (48, putB (6, [85, 4, a.1]) ++ putB (elK a))) (by simp only [List.length_append]; omega)
  rw [attrB, e3]
  simp only [List.length_append]
  omega
theorem attrE_len {a : AttrT} (h : mayA a = true) : (attrE a).length ≤ 75 := by
  have := attrB_len h
  rw [attrE, put_small (by simp only; omega)]
  simp only
  omega
theorem flat_len (l : List AttrT) (h : ∀ a ∈ l, mayA a = true) : (l.flatMap attrE).length ≤ 75 * l.length := by
  induction l with
  | nil => simp
  | cons a l ih =>
    have h1 := attrE_len (h a (by simp))
    have h2 := ih fun b hb => h b (List.mem_cons_of_mem _ hb)
    rw [List.flatMap_cons, List.length_append, List.length_cons]
    omega
def insD (b : List Int) (t : Int) : List EltT × Bool := if (oneD b).2 ≠ 0 ∨ (oneD b).1.1 ≠ t then ([], false) else ((allD (oneD b).1.2).1, decide ((allD (oneD b).1.2).2.2 = 0))
theorem takeD_len (b : List Int) : (takeD b).1.2.length ≤ b.length := by
  unfold takeD
  split
  . simp
  split
  . simp
  . simp only [List.length_take, List.length_drop]; omega
theorem oneD_len (b : List Int) : (oneD b).1.2.length ≤ b.length := by
  unfold oneD
  split
  . simp
  . exact takeD_len b
theorem put_nil (t : Int) (c : List Int) (ht : isTagD t = true) (hc : c.length ≤ 16777215) : PutD [] t c = (putB (t, c), 0) := by
  rw [PutD, if_neg (by rw [ht]; decide), if_neg (by omega), List.nil_append]
end Go.Pl
end
section
namespace Go.Pl
open Go.Vc
set_option linter.unusedVariables false
set_option linter.unusedSimpArgs false
theorem wide_le (x : Int) : ∀ k n : Nat, n ≤ 8 → n + k ≤ 8 → wide x n k ≤ 8
  | 0, n, _, _ => by simp [wide]
  | k + 1, n, h, h' => by
    unfold wide
    split
    . exact h
    . exact wide_le x k (n + 1) (by omega) (by omega)
theorem int_len (x : Int) : (IntD x).length ≤ 8 := by
  rw [IntD, nlow_len]; exact wide_le x 7 1 (by omega) (by omega)
theorem flags_len (n : Nat) : (FlagsD n).length ≤ 3 := by
  unfold FlagsD
  split
  . simp
  split <;> simp
def caB (c : Bool) : List Int := if c = true then putB (1, [255]) else []
def pathB (n : Int) : List Int := if n = -1 then [] else putB (2, IntD n)
def BasicD (v : Bool × Int) : List Int × Int := if v.2 < -1 ∨ 100 < v.2 ∨ (v.1 = false ∧ v.2 ≠ -1) then ([], 150) else (putB (48, caB v.1 ++ pathB v.2), 0)
def UsageD (set : Int) : List Int × Int := if set = 0 ∨ 511 < set then ([], 150) else (putB (3, FlagsD set.toNat), 0)
def NumberD (n : Int) : List Int × Int := if n < 0 then ([], 150) else (putB (2, IntD n), 0)
def reasonK (n : Int) : Bool := decide (0 ≤ n) && (decide (n ≤ 10) && decide (n ≠ 7))
def ReasonD (n : Int) : List Int × Int := if reasonK n = false then ([], 150) else (putB (10, IntD n), 0)
def SubjectD (k : List Int) : List Int := putB (4, k)
def IssuerD (k : List Int) : List Int := putB (48, putB (128, k))
theorem ca_len (c : Bool) : (caB c).length ≤ 3 := by cases c <;> simp [caB, putB, lngD]
theorem path_len (n : Int) : (pathB n).length ≤ 10 := by
  unfold pathB
  split
  . simp
  . have := int_len n
    rw [put_small (x := (2, IntD n)) (by simp only; omega)]; simp only; omega
end Go.Pl
end
