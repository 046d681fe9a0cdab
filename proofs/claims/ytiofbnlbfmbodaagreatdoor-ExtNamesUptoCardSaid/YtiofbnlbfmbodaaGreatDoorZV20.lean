import Derived.Test.YtiofbnlbfmbodaaGreatDoorZV19
set_option linter.unusedVariables false
set_option linter.unusedSimpArgs false
namespace Go.Pl
open Go.Vc
set_option linter.unusedVariables false
set_option linter.unusedSimpArgs false
theorem idxB_at : ∀ {l : List Int} {c : Int} {i : Nat}, i < l.length → c ∉ l.take i → l.getD i 0 = c → idxB l c = i
  | [], _, _, h, _, _ => by simp at h
  | a :: l, c, 0, _, _, h => by
    have h : a = c := h
    subst h
    simp [idxB]
  | a :: l, c, i + 1, h, hn, he => by
    have h1 : c ∉ l.take i := fun hc => hn (by rw [List.take_succ_cons]; exact List.mem_cons_of_mem _ hc)
    have h2 : a ≠ c := fun hc => hn (by rw [hc, List.take_succ_cons]; exact List.mem_cons_self)
    have ih := idxB_at (l := l) (c := c) (i := i) (by simpa using h) h1 (by simpa using he)
    unfold idxB
    rw [if_neg h2, ih]
    rw [if_neg (by omega)]
    omega
theorem idxB_no {l : List Int} {c : Int} (h : c ∉ l) : idxB l c = -1 := by
  have h1 := (idxB_mem l c)
  have h2 := (idxB_ge l c).1
  have : ¬ 0 ≤ idxB l c := fun hc => h (h1.1 hc)
  omega
theorem take_all {α : Type} {l : List α} {i : Nat} (h : ¬ i < l.length) : l.take i = l := List.take_of_length_le (by omega)
theorem unlike_nil (lo hi : Int) : unlikeK [] lo hi = true := by simp [unlikeK]
theorem unlike_step {l : List Int} {i : Nat} (hi : i < l.length) (lo hi' : Int) (h : unlikeK (l.take i) lo hi' = true) : unlikeK (l.take (i + 1)) lo hi' = (decide (lo ≤ l.getD i 0) && (decide (l.getD i 0 ≤ hi') && decide (l.getD i 0 ∉ l.take i))) := by
  rw [ntake_snoc l i hi]
  obtain ⟨h1, h2⟩ := Bool.and_eq_true_iff.1 h
  have h2 := of_decide_eq_true h2
  unfold unlikeK
  rw [List.all_append, h1]
  have : decide (List.Nodup (l.take i ++ [l.getD i 0])) = decide (l.getD i 0 ∉ l.take i) := by
    refine decide_eq_decide.2 ?_
    rw [List.nodup_append]
    constructor
    . rintro ⟨_, _, h5⟩ hm
      exact h5 _ hm _ (List.mem_singleton.2 rfl) rfl
    . intro hm
      refine ⟨h2, by simp, fun a ha b hb e => ?_⟩
      rw [List.mem_singleton.1 hb] at e
      exact hm (e ▸ ha)
  rw [this]
  simp [Bool.and_assoc]
theorem unlike_take {l : List Int} {lo hi : Int} (i : Nat) (h : unlikeK l lo hi = true) : unlikeK (l.take i) lo hi = true := by
  obtain ⟨h1, h2⟩ := Bool.and_eq_true_iff.1 h
  have h2 := of_decide_eq_true h2
  refine Bool.and_eq_true_iff.2 ⟨List.all_eq_true.2 fun x hx => List.all_eq_true.1 h1 x (List.mem_of_mem_take hx), decide_eq_true ?_⟩
  exact (List.take_sublist i l).nodup h2
theorem unlike_bad {l : List Int} {lo hi : Int} {i : Nat} (h : unlikeK (l.take i) lo hi = false) : unlikeK l lo hi = false := by
  cases hh : unlikeK l lo hi
  . rfl
  . rw [unlike_take i hh] at h; cases h
theorem flat_take {α : Type} (f : α → List Int) (l : List α) (d : α) (i : Nat) (h : i < l.length) : (l.take (i + 1)).flatMap f = (l.take i).flatMap f ++ f (l.getD i d) := by
  rw [take_snocA d l i h, List.flatMap_append]; simp
theorem gd_mem {α : Type} (l : List α) (d : α) (i : Nat) (h : i < l.length) : l.getD i d ∈ l := by
  rw [List.getD_eq_getElem?_getD, List.getElem?_eq_getElem h]
  exact List.getElem_mem h
theorem flat_le {α : Type} (f : α → List Int) (k : Nat) : ∀ (l : List α), (∀ x ∈ l, (f x).length ≤ k) → (l.flatMap f).length ≤ k * l.length
  | [], _ => by simp
  | a :: l, h => by
    have h1 := flat_le f k l fun x hx => h x (List.mem_cons_of_mem _ hx)
    have h2 := h a List.mem_cons_self
    rw [List.flatMap_cons, List.length_append, List.length_cons, Nat.mul_add]
    omega
theorem map_take {α β : Type} (f : α → β) (l : List α) (d : α) (i : Nat) (h : i < l.length) : (l.take (i + 1)).map f = (l.take i).map f ++ [f (l.getD i d)] := by
  rw [take_snocA d l i h, List.map_append]; rfl
theorem all_take {α : Type} {p : α → Prop} {l : List α} (d : α) {i : Nat} (h : i < l.length) (h1 : ∀ x ∈ l.take i, p x) (h2 : p (l.getD i d)) : ∀ x ∈ l.take (i + 1), p x := by
  intro x hx
  rw [take_snocA d l i h] at hx
  rcases List.mem_append.1 hx with hx | hx
  . exact h1 x hx
  . rw [List.mem_singleton.1 hx]; exact h2
theorem sum_mem {l : List GenT} {g : GenT} (h : g ∈ l) : g.2.length ≤ lenG l := flat_mem_len (fun g => g.2) h
theorem genB_len (g : GenT) : (genB g).length ≤ g.2.length + 5 := by
  unfold genB
  rw [put_len]
  have := (lng_len (n := ((elG g).2.length : Int))).2
  have e : (elG g).2.length = g.2.length := rfl
  omega
theorem genBs_len : ∀ (l : List GenT), (l.flatMap genB).length ≤ lenG l + 5 * l.length
  | [] => by simp
  | g :: l => by
    have h1 := genBs_len l
    have h2 := genB_len g
    have e : lenG (g :: l) = g.2.length + lenG l := by simp [lenG]
    rw [List.flatMap_cons, List.length_append, List.length_cons, e]
    omega
theorem purB_len (n : Int) : (purB n).length ≤ 60 := by
  have h1 := encO_len (purA ++ [n])
  have h2 : (purA ++ [n]).length = 9 := rfl
  unfold purB
  rw [put_len]
  have := (lng_len (n := ((elP n).2.length : Int))).2
  have e : (elP n).2.length = (encO (purA ++ [n])).length := rfl
  omega
theorem names_few {b : List Int} {l : List GenT} {e : Int} (h : ToNamesD b = (l, e)) : l.length ≤ 16 := by
  unfold ToNamesD at h
  split at h
  . rename_i c
    rw [← (Prod.mk.inj h).1, List.length_map]; exact c.2.2.2
  . rw [← (Prod.mk.inj h).1]; simp
theorem purposes_few {b l : List Int} {e : Int} (h : ToPurposesD b = (l, e)) : l.length ≤ 16 := by
  unfold ToPurposesD at h
  split at h
  . rename_i c
    rw [← (Prod.mk.inj h).1, List.length_map]; exact c.2.2.2.1
  . rw [← (Prod.mk.inj h).1]; simp
end Go.Pl
