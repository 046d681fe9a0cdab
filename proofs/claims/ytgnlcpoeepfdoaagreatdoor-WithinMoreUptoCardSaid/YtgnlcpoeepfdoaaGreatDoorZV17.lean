import Derived.Test.YtgnlcpoeepfdoaaGreatDoorZV16
set_option linter.unusedVariables false
set_option linter.unusedSimpArgs false
namespace Go.Pl
open Go.Vc
set_option linter.unusedVariables false
set_option linter.unusedSimpArgs false
def okB (l : GL1) : Bool := l.all fun t => mayT t.1 t.2
theorem okB_iff (l : GL1) : okB l = true ↔ okAll l := by
  unfold okB okAll
  rw [List.all_eq_true]
  constructor
  . intro h j hj; exact h _ (gd_mem hj)
  . intro h t ht
    obtain ⟨j, hj, rfl⟩ := List.getElem_of_mem ht
    have := h j hj
    rwa [List.getD_eq_getElem?_getD, List.getElem?_eq_getElem hj] at this
theorem not_all {p : Int × List Int → Bool} : ∀ {l : GL1}, ¬ (∀ j, j < l.length → p (l.getD j (0, [])) = false) → ∃ i, i < l.length ∧ (∀ j, j < i → p (l.getD j (0, [])) = false) ∧ p (l.getD i (0, [])) = true
  | [], h => absurd (fun j hj => by simp at hj) h
  | t :: l, h => by
    by_cases h0 : p t = true
    . exact ⟨0, by simp, fun j hj => by omega, by rwa [List.getD_cons_zero]⟩
    . have h0 : p t = false := by cases hh : p t; rfl; exact absurd hh h0
      have : ¬ (∀ j, j < l.length → p (l.getD j (0, [])) = false) := fun hh => h fun j hj => by
        cases j with
        | zero => rwa [List.getD_cons_zero]
        | succ j => rw [List.getD_cons_succ]; exact hh j (by simpa using hj)
      obtain ⟨i, h1, h2, h3⟩ := not_all this
      refine ⟨i + 1, by simpa using h1, fun j hj => ?_, by rwa [List.getD_cons_succ]⟩
      cases j with
      | zero => rwa [List.getD_cons_zero]
      | succ j => rw [List.getD_cons_succ]; exact h2 j (by omega)
theorem check_zero (p x : GL1) (g : Int × List Int) : ((checkT p x g).2 = 0) ↔ mayG g.1 g.2 = true ∧ okB p = true ∧ okB x = true ∧ ((p.any fun t => decide (t.1 = g.1)) = true → (p.any fun t => allT t g) = true) ∧ (x.any fun t => someT t g) = false := by
  have any_iff (q : Int × List Int → Bool) (l : GL1) : l.any q = false ↔ ∀ j, j < l.length → q (l.getD j (0, [])) = false := by
    rw [List.any_eq_false]
    constructor
    . intro h j hj
      have := h _ (gd_mem hj)
      cases hh : q (l.getD j (0, [])); rfl; exact absurd hh this
    . intro h t ht
      obtain ⟨j, hj, rfl⟩ := List.getElem_of_mem ht
      have := h j hj
      rw [List.getD_eq_getElem?_getD, List.getElem?_eq_getElem hj] at this
      simpa using this
  cases hg : mayG g.1 g.2
  . rw [check_host hg]; simp
  by_cases hp : okAll p
  . by_cases hx : okAll x
    . rw [(okB_iff p).2 hp, (okB_iff x).2 hx]
      by_cases ha : (p.any fun t => decide (t.1 = g.1)) = true ∧ (p.any fun t => allT t g) = false
      . rw [check_out hg hp hx ha.1 ha.2, ha.1, ha.2]; simp
      . have ha2 : (p.any fun t => decide (t.1 = g.1)) = true → (p.any fun t => allT t g) = true := fun h => by
          cases hh : (p.any fun t => allT t g); exact absurd ⟨h, hh⟩ ha; rfl
        by_cases hs : ∀ j, j < x.length → someT (x.getD j (0, [])) g = false
        . rw [check_ok hg hp hx ha hs, (any_iff (fun t => someT t g) x).2 hs]
          simpa using ha2
        . obtain ⟨i, h1, h2, h3⟩ := not_all (p := fun t => someT t g) hs
          rw [check_in hg hp hx ha h1 h2 h3]
          constructor
          . intro h; simp at h
          . rintro ⟨_, _, _, _, h⟩
            have := (any_iff (fun t => someT t g) x).1 h i h1
            rw [h3] at this; cases this
    . have hx2 : okB x = false := by cases hh : okB x; rfl; exact absurd ((okB_iff x).1 hh) hx
      have : ¬ (∀ j, j < x.length → (fun t : Int × List Int => !mayT t.1 t.2) (x.getD j (0, [])) = false) := fun hh => hx fun j hj => by have := hh j hj; simpa using this
      obtain ⟨i, h1, h2, h3⟩ := not_all (p := fun t : Int × List Int => !mayT t.1 t.2) (l := x) this
      rw [check_bad2 hg hp h1 (fun j hj => by have := h2 j hj; simpa using this) (by simpa using h3), hx2]
      simp
  . have hp2 : okB p = false := by cases hh : okB p; rfl; exact absurd ((okB_iff p).1 hh) hp
    have : ¬ (∀ j, j < p.length → (fun t : Int × List Int => !mayT t.1 t.2) (p.getD j (0, [])) = false) := fun hh => hp fun j hj => by have := hh j hj; simpa using this
    obtain ⟨i, h1, h2, h3⟩ := not_all (p := fun t : Int × List Int => !mayT t.1 t.2) (l := p) this
    rw [check_bad1 hg h1 (fun j hj => by have := h2 j hj; simpa using this) (by simpa using h3), hp2]
    simp
theorem okB_snoc (l : GL1) (t : Int × List Int) : okB (l ++ [t]) = (okB l && mayT t.1 t.2) := by simp [okB]
theorem any_snoc (l : GL1) (t : Int × List Int) (q : Int × List Int → Bool) : (l ++ [t]).any q = (l.any q || q t) := by simp
end Go.Pl
