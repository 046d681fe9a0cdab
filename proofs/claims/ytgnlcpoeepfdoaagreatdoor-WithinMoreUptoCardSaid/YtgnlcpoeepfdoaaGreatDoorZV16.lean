/- Texts of a verified walk, led together: WithinC, WithinD. -/
import Derived.Test.YtgnlcpoeepfdoaaGreatDoorZV15
set_option linter.unusedVariables false
set_option linter.unusedSimpArgs false
section
namespace Go.Pl
open Go.Vc
set_option linter.unusedVariables false
set_option linter.unusedSimpArgs false
theorem first_from (p : Int × List Int → Bool) : ∀ (l : List (Int × List Int)) (i k : Nat), k < l.length → (∀ j, j < k → p (l.getD j (0, [])) = false) → p (l.getD k (0, [])) = true → firstT p l i = ((i + k : Nat) : Int)
  | [], i, k, hk, _, _ => by simp at hk
  | t :: l, i, 0, _, _, h => by
    rw [firstT, if_pos (by simpa using h)]; simp
  | t :: l, i, k + 1, hk, hj, h => by
    have h0 := hj 0 (by omega)
    rw [List.getD_cons_zero] at h0
    rw [firstT, if_neg (by rw [h0]; decide), first_from p l (i + 1) k (by simpa using hk) (fun j hh => by have := hj (j + 1) (by omega); rwa [List.getD_cons_succ] at this) (by rwa [List.getD_cons_succ] at h)]
    congr 1
    omega
theorem first_none (p : Int × List Int → Bool) : ∀ (l : List (Int × List Int)) (i : Nat), (∀ j, j < l.length → p (l.getD j (0, [])) = false) → firstT p l i = -1
  | [], _, _ => rfl
  | t :: l, i, h => by
    have h0 := h 0 (by simp)
    rw [List.getD_cons_zero] at h0
    rw [firstT, if_neg (by rw [h0]; decide), first_none p l (i + 1) fun j hj => by have := h (j + 1) (by simp; omega); rwa [List.getD_cons_succ] at this]
theorem any_take (p : Int × List Int → Bool) (l : List (Int × List Int)) (i : Nat) (h : i < l.length) : (l.take (i + 1)).any p = ((l.take i).any p || p (l.getD i (0, []))) := by
  rw [List.take_succ_eq_append_getElem h, List.any_append, List.getD_eq_getElem?_getD, List.getElem?_eq_getElem h]
  simp
theorem gd_mem {l : List (Int × List Int)} {i : Nat} (h : i < l.length) : l.getD i (0, []) ∈ l := by
  rw [List.getD_eq_getElem?_getD, List.getElem?_eq_getElem h]
  exact List.getElem_mem h
end Go.Pl
end
section
namespace Go.Pl
open Go.Vc
set_option linter.unusedVariables false
set_option linter.unusedSimpArgs false
abbrev GL1 : Type := List (Int × List Int)
def lenT (l : List (Int × List Int)) : Prop := l.length ≤ 100000000 ∧ ∀ t ∈ l, t.2.length ≤ 100000000
def okAll (l : GL1) : Prop := ∀ j : Nat, j < l.length → mayT (l.getD j (0, [])).1 (l.getD j (0, [])).2 = true
def lenTB (l : List (Int × List Int)) : Bool := decide (l.length ≤ 100000000) && l.all fun t => decide (t.2.length ≤ 100000000)
theorem lenTB_iff (l : List (Int × List Int)) : lenTB l = true ↔ lenT l := by
  unfold lenTB lenT
  simp [List.all_eq_true]
theorem check_host {p x : GL1} {g : Int × List Int} (h : mayG g.1 g.2 = false) : checkT p x g = (0, 130) := by rw [checkT, if_pos h]
theorem check_bad1 {p x : GL1} {g : Int × List Int} (h : mayG g.1 g.2 = true) {i : Nat} (hi : i < p.length) (hj : ∀ j, j < i → mayT (p.getD j (0, [])).1 (p.getD j (0, [])).2 = true) (hb : mayT (p.getD i (0, [])).1 (p.getD i (0, [])).2 = false) : checkT p x g = ((i : Int), 140) := by
  have e := first_from (fun t => !mayT t.1 t.2) p 0 i hi (fun j hh => by simp only [hj j hh]; rfl) (by simp only [hb]; rfl)
  rw [checkT, if_neg (by rw [h]; decide), if_pos (by rw [e]; omega), e]
  simp
theorem bad_none {p : GL1} (hp : okAll p) : firstT (fun t => !mayT t.1 t.2) p 0 = -1 := first_none _ p 0 fun j hj => by simp only [hp j hj]; rfl
theorem check_bad2 {p x : GL1} {g : Int × List Int} (h : mayG g.1 g.2 = true) (hp : okAll p) {i : Nat} (hi : i < x.length) (hj : ∀ j, j < i → mayT (x.getD j (0, [])).1 (x.getD j (0, [])).2 = true) (hb : mayT (x.getD i (0, [])).1 (x.getD i (0, [])).2 = false) : checkT p x g = ((i : Int) + p.length, 140) := by
  have e := first_from (fun t => !mayT t.1 t.2) x 0 i hi (fun j hh => by simp only [hj j hh]; rfl) (by simp only [hb]; rfl)
  rw [checkT, if_neg (by rw [h]; decide), if_neg (by rw [bad_none hp]; decide), if_pos (by rw [e]; omega), e]
  simp
theorem check_out {p x : GL1} {g : Int × List Int} (h : mayG g.1 g.2 = true) (hp : okAll p) (hx : okAll x) (ha : (p.any fun t => decide (t.1 = g.1)) = true) (hi : (p.any fun t => allT t g) = false) : checkT p x g = (0, 141) := by
  rw [checkT, if_neg (by rw [h]; decide), if_neg (by rw [bad_none hp]; decide), if_neg (by rw [bad_none hx]; decide), if_pos ⟨ha, hi⟩]
theorem check_in {p x : GL1} {g : Int × List Int} (h : mayG g.1 g.2 = true) (hp : okAll p) (hx : okAll x) (ha : ¬ ((p.any fun t => decide (t.1 = g.1)) = true ∧ (p.any fun t => allT t g) = false)) {i : Nat} (hi : i < x.length)
    (hj : ∀ j, j < i → someT (x.getD j (0, [])) g = false) (hb : someT (x.getD i (0, [])) g = true) : checkT p x g = ((i : Int), 142) := by
  have e := first_from (fun t => someT t g) x 0 i hi hj hb
  rw [checkT, if_neg (by rw [h]; decide), if_neg (by rw [bad_none hp]; decide), if_neg (by rw [bad_none hx]; decide), if_neg ha, if_pos (by rw [e]; omega), e]
  simp
theorem check_ok {p x : GL1} {g : Int × List Int} (h : mayG g.1 g.2 = true) (hp : okAll p) (hx : okAll x) (ha : ¬ ((p.any fun t => decide (t.1 = g.1)) = true ∧ (p.any fun t => allT t g) = false))
    (hj : ∀ j, j < x.length → someT (x.getD j (0, [])) g = false) : checkT p x g = (0, 0) := by
  have e := first_none (fun t => someT t g) x 0 hj
  rw [checkT, if_neg (by rw [h]; decide), if_neg (by rw [bad_none hp]; decide), if_neg (by rw [bad_none hx]; decide), if_neg ha, if_neg (by rw [e]; decide)]
end Go.Pl
end
