import Derived.Test.YtbdfeddakniaeaaDoorZV06
set_option linter.unusedVariables false
set_option linter.unusedSimpArgs false
namespace Go.Pl
open Go.Vc
abbrev AttrT : Type := Int × List Int
abbrev AT : Kd := .pair (.int .i64) .str
abbrev adft : AttrT := ((0 : Int), ([] : List Int))
def sameA (a b : AttrT) : Bool := decide (a.1 = b.1) && decide (foldD a.2 = foldD b.2)
def beginsD : List AttrT → List AttrT → Bool
  | _, [] => true
  | [], _ :: _ => false
  | a :: u, b :: v => sameA a b && beginsD u v
def sameN (a b : List AttrT) : Bool := decide (a.length = b.length) && beginsD a b
def labelK (k : Int) : List Int :=
  if k = 3 then [67, 78] else if k = 5 then [83, 78] else if k = 6 then [67] else if k = 7 then [76] else if k = 8 then [83, 84] else if k = 10 then [79] else if k = 11 then [79, 85] else []
def capsD (s : List Int) : Bool := decide (s.length = 2 ∧ 65 ≤ s.getD 0 0 ∧ s.getD 0 0 ≤ 90 ∧ 65 ≤ s.getD 1 0 ∧ s.getD 1 0 ≤ 90)
def mayA (a : AttrT) : Bool :=
  decide (labelK a.1 ≠ [] ∧ a.2 ≠ [] ∧ a.2.length ≤ 64) && (mayD 12 a.2 && (if a.1 = 6 then capsD a.2 && mayD 19 a.2 else if a.1 = 5 then mayD 19 a.2 else true))
def mayN (n : List AttrT) : Bool := decide (n.length ≤ 16) && n.all mayA
theorem begins_iff : ∀ a b : List AttrT, beginsD a b = true ↔ b.length ≤ a.length ∧ ∀ i, i < b.length → sameA (a.getD i adft) (b.getD i adft) = true
  | _, [] => by simp [beginsD]
  | [], b :: v => by simp [beginsD]
  | a :: u, b :: v => by
    rw [beginsD, Bool.and_eq_true, begins_iff u v]
    simp only [List.length_cons]
    constructor
    . rintro ⟨h1, h2, h3⟩
      refine ⟨by omega, fun i hi => ?_⟩
      cases i with
      | zero => exact h1
      | succ i => exact h3 i (by omega)
    . rintro ⟨h1, h2⟩
      exact ⟨h2 0 (by omega), by omega, fun i hi => h2 (i + 1) (by omega)⟩
theorem sameA_refl (a : AttrT) : sameA a a = true := by simp [sameA]
theorem sameA_symm {a b : AttrT} (h : sameA a b = true) : sameA b a = true := by
  simp only [sameA, Bool.and_eq_true, decide_eq_true_eq] at h ⊢
  exact ⟨h.1.symm, h.2.symm⟩
theorem begins_refl (a : List AttrT) : beginsD a a = true := (begins_iff a a).2 ⟨Nat.le_refl _, fun _ _ => sameA_refl _⟩
theorem same_iff (a b : List AttrT) : sameN a b = true ↔ beginsD a b = true ∧ beginsD b a = true := by
  rw [sameN, Bool.and_eq_true, decide_eq_true_eq, begins_iff, begins_iff]
  constructor
  . rintro ⟨h1, h2, h3⟩
    exact ⟨⟨h2, h3⟩, by omega, fun i hi => sameA_symm (h3 i (by omega))⟩
  . rintro ⟨⟨h1, h2⟩, h3, _⟩
    exact ⟨by omega, h1, h2⟩
theorem bulk_attrs : ∀ (l : List AttrT), (∀ x ∈ l, x.2.length ≤ Kd.bulk (Kd.sl AT) l) ∧ l.length ≤ Kd.bulk (Kd.sl AT) l
  | [] => ⟨(fun x hx => by cases hx), Nat.zero_le _⟩
  | a :: l => by
    obtain ⟨h1, h2⟩ := bulk_attrs l
    have e : Kd.bulk (Kd.sl AT) (a :: l) = (1 + (a.2.length + 1)) + Kd.bulk (Kd.sl AT) l := by
      simp only [Kd.bulk, List.map_cons, List.sum_cons]; omega
    rw [e]
    refine ⟨fun x hx => ?_, by rw [List.length_cons]; omega⟩
    rcases List.mem_cons.1 hx with rfl | hx
    . omega
    . have := h1 x hx
      omega
theorem may_de : mayN [(6, [68, 69])] = true := by
  have hw : Kd.wf Kd.str [68, 69] := ⟨by decide, by decide⟩
  have h12 : mayD 12 [68, 69] = true := (may_22 hw (by decide)).2
  have h : mayA (6, [68, 69]) = true := by
    rw [mayA]
    simp only
    rw [h12]
    decide
  simp [mayN, h]
end Go.Pl
