import Derived.Test.YtiofbnlbfmbodaaGreatDoorZV19
set_option linter.unusedVariables false
set_option linter.unusedSimpArgs false
namespace Go.Pl
open Go.Vc
set_option linter.unusedVariables false
set_option linter.unusedSimpArgs false
theorem idxB_at : ∀ {l : List Int} {c : Int} {i : Nat}, i < l.length → c ∉ l.take i → l.getD i 0 = c → idxB l c = i
  | [], _, _, h, _, _ => by simp at h
  | a :: l, c, 0, _, _, h => by
    have h : a = c := h
    subst h
    simp [idxB]
  | a :: l, c, i + 1, h, hn, he => by
    have h1 : c ∉ l.take i := fun hc => hn (by rw [List.take_succ_cons]; exact List.mem_cons_of_mem _ hc)
    have h2 : a ≠ c := fun hc => hn (by rw [hc, List.take_succ_cons]; exact List.mem_cons_self)
    have ih := idxB_at (l := l) (c := c) (i := i) (by simpa using h) h1 (by simpa using he)
    unfold idxB
    rw [if_neg h2, ih]
    rw [if_neg (by omega)]
    omega
theorem idxB_no {l : List Int} {c : Int} (h : c ∉ l) : idxB l c = -1 := by
  have h1 := (idxB_mem l c)
  have h2 := (idxB_ge l c).1
  have : ¬ 0 ≤ idxB l c := fun hc => h (h1.1 hc)
  omega
theorem take_all {α : Type} {l : List α} {i : Nat} (h : ¬ i < l.length) : l.take i = l := List.take_of_length_le (by omega)
theorem unlike_nil (lo hi : Int) : unlikeK [] lo hi = true := by simp [unlikeK]
theorem unlike_step {l : List Int} {i : Nat} (hi : i < l.length) (lo hi' : Int) (h : unlikeK (l.take i) lo hi' = true) : unlikeK (l.take (i + 1)) lo hi' = (decide (lo ≤ l.getD i 0) && (decide (l.getD i 0 ≤ hi') && decide (l.getD i 0 ∉ l.take i))) := by
  rw [ntake_snoc l i hi]
  obtain ⟨h1, h2⟩ := Bool.and_eq_true_iff.1 h
  have h2 := of_decide_eq_true h2
  unfold unlikeK
  rw [List.all_append, h1]
  have : decide (List.Nodup (l.take i ++ [l.getD i 0])) = decide (l.getD i 0 ∉ l.take i) := by
    refine decide_eq_decide.2 ?_
    rw [List.nodup_append]
    constructor
    . rintro ⟨_, _, h5⟩ hm
      exact h5 _ hm _ (List.mem_singleton.2 rfl) rfl
    . intro hm
      refine ⟨h2, by simp, fun a ha b hb e => ?_⟩
      rw [List.mem_singleton.1 hb] at e
      exact hm (e ▸ ha)
  rw [this]
  simp [Bool.and_assoc]
theorem unlike_take {l : List Int} {lo hi : Int} (i : Nat) (h : unlikeK l lo hi = true) : unlikeK (l.take i) lo hi = true := by
  obtain ⟨h1, h2⟩ := Bool.and_eq_true_iff.1 h
  have h2 := of_decide_eq_true h2
  refine Bool.and_eq_true_iff.2 ⟨List.all_eq_true.2 fun x hx => List.all_eq_true.1 h1 x (List.mem_of_mem_take hx), decide_eq_true ?_⟩
  exact (List.take_sublist i l).nodup h2
theorem unlike_bad {l : List Int} {lo hi : Int} {i : Nat} (h : unlikeK (l.take i) lo hi = false) : unlikeK l lo hi = false := by
  cases hh : unlikeK l lo hi
  . rfl
  . rw [unlike_take i hh] at h; cases h
theorem flat_take {α : Type} (f : α → List Int) (l : List α) (d : α) (i : Nat) (h : i < l.length) : (l.take (i + 1)).flatMap f = (l.take i).flatMap f ++ f (l.getD i d) := by
  rw [take_snocA d l i h, List.flatMap_append]; simp
theorem gd_mem {α : Type} (l : List α) (d : α) (i : Nat) (h : i < l.length) : l.getD i d ∈ l := by
  rw [List.getD_eq_getElem?_getD, List.getElem?_eq_getElem h]
  exact List.getElem_mem h
theorem flat_le {α : Type} (f : α → List Int) (k : Nat) : ∀ (l : List α), (∀ x ∈ l, (f x).length ≤ k) → (l.flatMap f).length ≤ k * l.length
  | [], _ => by simp
  | a :: l, h => by
    have h1 := flat_le f k l fun x hx => h x (List.mem_cons_of_mem _ hx)
    have h2 := h a List.mem_cons_self
    rw [List.flatMap_cons, List.length_append, List.length_cons, Nat.mul_add]
    omega
theorem map_take {α β : Type} (f : α → β) (l : List α) (d : α) (i : Nat) (h : i < l.length) : (l.take (i + 1)).map f = (l.take i).map f ++ [f (l.getD i d)] := by
  rw [take_snocA d l i h, List.map_append]; rfl
theorem all_take {α : Type} {p : α → Prop} {l : List α} (d : α) {i : Nat} (h : i < l.length) (h1 : ∀ x ∈ l.take i, p x) (h2 : p (l.getD i d)) : ∀ x ∈ l.take (i + 1), p x := by
  intro x hx
  rw [take_snocA d l i h] at hx
  rcases List.mem_append.1 hx with hx | hx
  . exact h1 x hx
  . rw [List.mem_singleton.1 hx]; exact h2
theorem sum_mem {l : List GenT} {g : GenT} (h : g ∈ l) : g.2.length ≤ lenG l := flat_mem_len (fun g => g.2) h
theorem el_mem {l : List EltT} {g : EltT} (h : g ∈ l) : g.2.length ≤ lenEs l := flat_mem_len (fun g => g.2) h
theorem genB_len (g : GenT) : (genB g).length ≤ g.2.length + 5 := by
  unfold genB
  rw [put_len]
  have := (lng_len (n := ((elG g).2.length : Int))).2
  have e : (elG g).2.length = g.2.length := rfl
  omega
theorem genBs_len : ∀ (l : List GenT), (l.flatMap genB).length ≤ lenG l + 5 * l.length
  | [] => by simp
  | g :: l => by
    have h1 := genBs_len l
    have h2 := genB_len g
    have e : lenG (g :: l) = g.2.length + lenG l := by simp [lenG]
    rw [List.flatMap_cons, List.length_append, List.length_cons, e]
    omega
theorem elTs_len : ∀ (l : List GenT), (l.flatMap fun t => putB (elT t)).length ≤ lenG l + 10 * l.length
  | [] => by simp
  | g :: l => by
    have h1 := elTs_len l
    have h2 := genB_len g
    have h3 : (putB (elT g)).length ≤ (genB g).length + 5 := by
      rw [put_len]
      have := (lng_len (n := ((elT g).2.length : Int))).2
      have e : (elT g).2.length = (genB g).length := rfl
      omega
    have e : lenG (g :: l) = g.2.length + lenG l := by simp [lenG]
    rw [List.flatMap_cons, List.length_append, List.length_cons, e]
    omega
theorem cont_sum : ∀ (l : List EltT), lenEs l ≤ (l.flatMap putB).length
  | [] => by simp [lenEs]
  | x :: l => by
    have h1 := cont_sum l
    have h2 := put_cont x
    have e : lenEs (x :: l) = x.2.length + lenEs l := by simp [lenEs]
    rw [List.flatMap_cons, List.length_append, e]
    omega
theorem take_rest (l : List EltT) (t : Int) : lenEs (takeE l t).2.2 ≤ lenEs l := by
  unfold takeE
  split
  . exact Nat.le_refl _
  . cases l with
    | nil => exact Nat.le_refl _
    | cons x l =>
      have e : lenEs (x :: l) = x.2.length + lenEs l := by simp [lenEs]
      simp only [List.drop_succ_cons, List.drop_zero]
      omega
theorem rdS_rest {l : List EltT} {t : Int} (h : (rdS l t).2.2 = true) : lenEs (rdS l t).2.1 ≤ lenEs l := by
  unfold rdS at h ⊢
  split
  . exact Nat.le_refl _
  . split
    . exact take_rest l t
    . exact Nat.zero_le _
theorem rdS_few (l : List EltT) (t : Int) : (rdS l t).1.length ≤ 16 := by
  unfold rdS
  split
  . exact Nat.zero_le _
  . split
    . rename_i c
      simp only [List.length_map]
      exact c.2.2.1
    . exact Nat.zero_le _
def lenX (l : List ExtT) : Nat := l.length
theorem ext_mayO {n : Int} (h0 : 0 ≤ n) (h1 : n ≤ 127) : mayO (extA ++ [n]) = true := by
  simp [mayO, inArc, extA]
  omega
theorem purB_len (n : Int) : (purB n).length ≤ 60 := by
  have h1 := encO_len (purA ++ [n])
  have h2 : (purA ++ [n]).length = 9 := rfl
  unfold purB
  rw [put_len]
  have := (lng_len (n := ((elP n).2.length : Int))).2
  have e : (elP n).2.length = (encO (purA ++ [n])).length := rfl
  omega
theorem caB_cons (x : ExtT) : (if x.2.1 = true then [((1 : Int), [(255 : Int)])] else []).flatMap putB = caB x.2.1 := by
  unfold caB; split <;> simp
theorem extB_parts (x : ExtT) : extB x = putB (48, putB (6, encO (extA ++ [x.1])) ++ (caB x.2.1 ++ putB (4, x.2.2))) := by
  unfold extB elX extP
  rw [List.flatMap_cons, List.flatMap_append, caB_cons]
  simp
theorem extB_len {x : ExtT} (h : x.2.2.length ≤ 65536) : (putB (6, encO (extA ++ [x.1])) ++ (caB x.2.1 ++ putB (4, x.2.2))).length ≤ 65600 ∧ (extB x).length ≤ 65610 := by
  have h1 := encO_len (extA ++ [x.1])
  have h2 : (extA ++ [x.1]).length = 4 := rfl
  have h3 := ca_len x.2.1
  have h4 := (lng_len (n := ((encO (extA ++ [x.1])).length : Int))).2
  have h5 := (lng_len (n := (x.2.2.length : Int))).2
  have h6 : (putB (6, encO (extA ++ [x.1])) ++ (caB x.2.1 ++ putB (4, x.2.2))).length ≤ 65600 := by
    rw [List.length_append, List.length_append, put_len, put_len]
    simp only
    omega
  refine ⟨h6, ?_⟩
  rw [extB_parts, put_len]
  have := (lng_len (n := ((putB (6, encO (extA ++ [x.1])) ++ (caB x.2.1 ++ putB (4, x.2.2))).length : Int))).2
  simp only
  omega
def gE (e : EltT) : GenT := genE (takeD e.2).1
theorem gT_map (e : EltT) : gT e = (rowL e).map gE := rfl
theorem gE_sum : ∀ (l : List EltT), lenG (l.map gE) ≤ lenEs l
  | [] => by simp [lenG, lenEs]
  | e :: l => by
    have h1 := gE_sum l
    have e1 : lenEs (e :: l) = e.2.length + lenEs l := by simp [lenEs]
    have e2 : lenG ((e :: l).map gE) = (gE e).2.length + lenG (l.map gE) := by simp [lenG]
    have h2 := takeD_len e.2
    have h3 : (gE e).2 = (takeD e.2).1.2 := rfl
    rw [e1, e2, h3]; omega
theorem gT_sum {e : EltT} (h : Bys e.2) : lenG (gT e) ≤ e.2.length := by
  have h1 := gE_sum (rowL e)
  have h2 := (rowD_sum h).1
  rw [gT_map]
  exact Nat.le_trans h1 h2
theorem lenG_app (l m : List GenT) : lenG (l ++ m) = lenG l + lenG m := by simp [lenG]
theorem guessP_sum : ∀ (l : List EltT), (∀ e ∈ l, Bys e.2) → lenG (guessP l) ≤ lenEs l
  | [], _ => by simp [guessP, lenG, lenEs]
  | e :: l, h => by
    have h1 := guessP_sum l fun x hx => h x (List.mem_cons_of_mem _ hx)
    have h2 := gT_sum (h e List.mem_cons_self)
    have e1 : lenEs (e :: l) = e.2.length + lenEs l := by simp [lenEs]
    have e2 : guessP (e :: l) = (if e.1 = 160 then gT e else []) ++ guessP l := by simp [guessP]
    rw [e1, e2, lenG_app]
    split
    . omega
    . simp [lenG] at h1 ⊢; omega
theorem guessX_sum : ∀ (l : List EltT), (∀ e ∈ l, Bys e.2) → lenG (guessX l) ≤ lenEs l
  | [], _ => by simp [guessX, lenG, lenEs]
  | e :: l, h => by
    have h1 := guessX_sum l fun x hx => h x (List.mem_cons_of_mem _ hx)
    have h2 := gT_sum (h e List.mem_cons_self)
    have e1 : lenEs (e :: l) = e.2.length + lenEs l := by simp [lenEs]
    have e2 : guessX (e :: l) = (if e.1 = 160 then [] else gT e) ++ guessX l := by simp [guessX]
    rw [e1, e2, lenG_app]
    split
    . simp [lenG] at h1 ⊢; omega
    . omega
end Go.Pl
