import Derived.Test.YtiofbnlbfmbodaaGreatDoorZV19
set_option linter.unusedVariables false
set_option linter.unusedSimpArgs false
namespace Go.Pl
open Go.Vc
set_option linter.unusedVariables false
set_option linter.unusedSimpArgs false
theorem take_all {α : Type} {l : List α} {i : Nat} (h : ¬ i < l.length) : l.take i = l := List.take_of_length_le (by omega)
theorem flat_take {α : Type} (f : α → List Int) (l : List α) (d : α) (i : Nat) (h : i < l.length) : (l.take (i + 1)).flatMap f = (l.take i).flatMap f ++ f (l.getD i d) := by
  rw [take_snocA d l i h, List.flatMap_append]; simp
theorem gd_mem {α : Type} (l : List α) (d : α) (i : Nat) (h : i < l.length) : l.getD i d ∈ l := by
  rw [List.getD_eq_getElem?_getD, List.getElem?_eq_getElem h]
  exact List.getElem_mem h
theorem map_take {α β : Type} (f : α → β) (l : List α) (d : α) (i : Nat) (h : i < l.length) : (l.take (i + 1)).map f = (l.take i).map f ++ [f (l.getD i d)] := by
  rw [take_snocA d l i h, List.map_append]; rfl
theorem all_take {α : Type} {p : α → Prop} {l : List α} (d : α) {i : Nat} (h : i < l.length) (h1 : ∀ x ∈ l.take i, p x) (h2 : p (l.getD i d)) : ∀ x ∈ l.take (i + 1), p x := by
  intro x hx
  rw [take_snocA d l i h] at hx
  rcases List.mem_append.1 hx with hx | hx
  . exact h1 x hx
  . rw [List.mem_singleton.1 hx]; exact h2
theorem sum_mem {l : List GenT} {g : GenT} (h : g ∈ l) : g.2.length ≤ lenG l := flat_mem_len (fun g => g.2) h
theorem el_mem {l : List EltT} {g : EltT} (h : g ∈ l) : g.2.length ≤ lenEs l := flat_mem_len (fun g => g.2) h
theorem genB_len (g : GenT) : (genB g).length ≤ g.2.length + 5 := by
  unfold genB
  rw [put_len]
  have := (lng_len (n := ((elG g).2.length : Int))).2
  have e : (elG g).2.length = g.2.length := rfl
  omega
theorem genBs_len : ∀ (l : List GenT), (l.flatMap genB).length ≤ lenG l + 5 * l.length
  | [] => by simp
  | g :: l => by
    have h1 := genBs_len l
    have h2 := genB_len g
    have e : lenG (g :: l) = g.2.length + lenG l := by simp [lenG]
    rw [List.flatMap_cons, List.length_append, List.length_cons, e]
    omega
theorem elTs_len : ∀ (l : List GenT), (l.flatMap fun t => putB (elT t)).length ≤ lenG l + 10 * l.length
  | [] => by simp
  | g :: l => by
    have h1 := elTs_len l
    have h2 := genB_len g
    have h3 : (putB (elT g)).length ≤ (genB g).length + 5 := by
      rw [put_len]
      have := (lng_len (n := ((elT g).2.length : Int))).2
      have e : (elT g).2.length = (genB g).length := rfl
      omega
    have e : lenG (g :: l) = g.2.length + lenG l := by simp [lenG]
    rw [List.flatMap_cons, List.length_append, List.length_cons, e]
    omega
theorem cont_sum : ∀ (l : List EltT), lenEs l ≤ (l.flatMap putB).length
  | [] => by simp [lenEs]
  | x :: l => by
    have h1 := cont_sum l
    have h2 := put_cont x
    have e : lenEs (x :: l) = x.2.length + lenEs l := by simp [lenEs]
    rw [List.flatMap_cons, List.length_append, e]
    omega
theorem take_rest (l : List EltT) (t : Int) : lenEs (takeE l t).2.2 ≤ lenEs l := by
  unfold takeE
  split
  . exact Nat.le_refl _
  . cases l with
    | nil => exact Nat.le_refl _
    | cons x l =>
      have e : lenEs (x :: l) = x.2.length + lenEs l := by simp [lenEs]
      simp only [List.drop_succ_cons, List.drop_zero]
      omega
theorem rdS_rest {l : List EltT} {t : Int} (h : (rdS l t).2.2 = true) : lenEs (rdS l t).2.1 ≤ lenEs l := by
  unfold rdS at h ⊢
  split
  . exact Nat.le_refl _
  . split
    . exact take_rest l t
    . exact Nat.zero_le _
theorem rdS_few (l : List EltT) (t : Int) : (rdS l t).1.length ≤ 16 := by
  unfold rdS
  split
  . exact Nat.zero_le _
  . split
    . rename_i c
      simp only [List.length_map]
      exact c.2.2.1
    . exact Nat.zero_le _
theorem subs_put {t : Int} {l : List GenT} : (subs t l).flatMap putB = if l = [] then [] else putB (t, l.flatMap fun t => putB (elT t)) := by
  unfold subs
  split
  . rfl
  . simp only [List.flatMap_cons, List.flatMap_nil, List.append_nil]
theorem elT_pos {l : List GenT} (h : l ≠ []) : 0 < (l.flatMap fun t => putB (elT t)).length := by
  match l, h with
  | a :: l, _ =>
    rw [List.flatMap_cons, List.length_append, put_len]; omega
theorem lenG_take (l : List GenT) (i : Nat) : lenG (l.take i) ≤ lenG l := by
  have h : lenG l = lenG (l.take i) + lenG (l.drop i) := by
    unfold lenG
    rw [← List.length_append, ← List.flatMap_append, List.take_append_drop]
  omega
theorem lenEs_take (l : List EltT) (i : Nat) : lenEs (l.take i) ≤ lenEs l := by
  have h : lenEs l = lenEs (l.take i) + lenEs (l.drop i) := by
    unfold lenEs
    rw [← List.length_append, ← List.flatMap_append, List.take_append_drop]
  omega
theorem rowL_len (e : EltT) : (rowL e).length ≤ e.2.length := by
  unfold rowL rowD
  rw [List.length_map]
  exact (rowR_len e.2 e.2.length 0).1
def gE (e : EltT) : GenT := genE (takeD e.2).1
theorem gT_map (e : EltT) : gT e = (rowL e).map gE := rfl
theorem guessP_len : ∀ (l : List EltT), (guessP l).length ≤ lenEs l
  | [] => by simp [guessP, lenEs]
  | e :: l => by
    have h1 := guessP_len l
    have h2 := rowL_len e
    have e1 : lenEs (e :: l) = e.2.length + lenEs l := by simp [lenEs]
    have e2 : guessP (e :: l) = (if e.1 = 160 then gT e else []) ++ guessP l := by simp [guessP]
    rw [e1, e2, List.length_append]
    split
    . rw [gT_map, List.length_map]; omega
    . simp; omega
theorem guessX_len : ∀ (l : List EltT), (guessX l).length ≤ lenEs l
  | [] => by simp [guessX, lenEs]
  | e :: l => by
    have h1 := guessX_len l
    have h2 := rowL_len e
    have e1 : lenEs (e :: l) = e.2.length + lenEs l := by simp [lenEs]
    have e2 : guessX (e :: l) = (if e.1 = 160 then [] else gT e) ++ guessX l := by simp [guessX]
    rw [e1, e2, List.length_append]
    split
    . simp; omega
    . rw [gT_map, List.length_map]; omega
theorem gE_sum : ∀ (l : List EltT), lenG (l.map gE) ≤ lenEs l
  | [] => by simp [lenG, lenEs]
  | e :: l => by
    have h1 := gE_sum l
    have e1 : lenEs (e :: l) = e.2.length + lenEs l := by simp [lenEs]
    have e2 : lenG ((e :: l).map gE) = (gE e).2.length + lenG (l.map gE) := by simp [lenG]
    have h2 := takeD_len e.2
    have h3 : (gE e).2 = (takeD e.2).1.2 := rfl
    rw [e1, e2, h3]; omega
theorem gT_sum {e : EltT} (h : Bys e.2) : lenG (gT e) ≤ e.2.length := by
  have h1 := gE_sum (rowL e)
  have h2 := (rowD_sum h).1
  rw [gT_map]
  exact Nat.le_trans h1 h2
theorem lenG_app (l m : List GenT) : lenG (l ++ m) = lenG l + lenG m := by simp [lenG]
theorem guessP_sum : ∀ (l : List EltT), (∀ e ∈ l, Bys e.2) → lenG (guessP l) ≤ lenEs l
  | [], _ => by simp [guessP, lenG, lenEs]
  | e :: l, h => by
    have h1 := guessP_sum l fun x hx => h x (List.mem_cons_of_mem _ hx)
    have h2 := gT_sum (h e List.mem_cons_self)
    have e1 : lenEs (e :: l) = e.2.length + lenEs l := by simp [lenEs]
    have e2 : guessP (e :: l) = (if e.1 = 160 then gT e else []) ++ guessP l := by simp [guessP]
    rw [e1, e2, lenG_app]
    split
    . omega
    . simp [lenG] at h1 ⊢; omega
theorem guessX_sum : ∀ (l : List EltT), (∀ e ∈ l, Bys e.2) → lenG (guessX l) ≤ lenEs l
  | [], _ => by simp [guessX, lenG, lenEs]
  | e :: l, h => by
    have h1 := guessX_sum l fun x hx => h x (List.mem_cons_of_mem _ hx)
    have h2 := gT_sum (h e List.mem_cons_self)
    have e1 : lenEs (e :: l) = e.2.length + lenEs l := by simp [lenEs]
    have e2 : guessX (e :: l) = (if e.1 = 160 then [] else gT e) ++ guessX l := by simp [guessX]
    rw [e1, e2, lenG_app]
    split
    . simp [lenG] at h1 ⊢; omega
    . omega
theorem guessP_step (L : List EltT) (i : Nat) (h : i < L.length) : guessP (L.take (i + 1)) = guessP (L.take i) ++ if (L.getD i edft).1 = 160 then gT (L.getD i edft) else [] := by
  unfold guessP
  rw [take_snocA edft L i h, List.flatMap_append]; simp
theorem guessX_step (L : List EltT) (i : Nat) (h : i < L.length) : guessX (L.take (i + 1)) = guessX (L.take i) ++ if (L.getD i edft).1 = 160 then [] else gT (L.getD i edft) := by
  unfold guessX
  rw [take_snocA edft L i h, List.flatMap_append]; simp
theorem take_tag {b : List Int} (hb : Bys b) : 0 ≤ (takeD b).1.1 := by
  by_cases h : (takeD b).2.2 = 0
  . exact (tag_range (take_inv hb h).1).1
  . unfold takeD at h ⊢
    split
    . exact Int.le_refl 0
    . split
      . exact Int.le_refl 0
      . rename_i h1 h2
        rw [if_neg h1, if_neg h2] at h
        exact absurd rfl h
end Go.Pl
