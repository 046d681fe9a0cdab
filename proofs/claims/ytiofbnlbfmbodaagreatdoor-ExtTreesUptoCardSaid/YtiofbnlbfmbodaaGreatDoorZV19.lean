/- Texts of a verified walk, led together: NumB, ExtR, ExtN, ExtX, ExtB. -/
import Derived.Test.YtiofbnlbfmbodaaGreatDoorZV17
import Derived.Test.YtiofbnlbfmbodaaGreatDoorZV18
import Derived.Test.YtiofbnlbfmbodaaGreatDoorZV14
import Derived.Test.YtiofbnlbfmbodaaGreatDoorZV11
import Derived.Test.YtiofbnlbfmbodaaGreatDoorZV16
set_option linter.unusedVariables false
set_option linter.unusedSimpArgs false
section
namespace Go.Pl
open Go.Vc
set_option linter.unusedVariables false
set_option linter.unusedSimpArgs false
end Go.Pl
end
section
namespace Go.Pl
open Go.Vc
set_option linter.unusedVariables false
set_option linter.unusedSimpArgs false
def contD (b : List Int) (t : Int) : List Int × Bool := if (oneD b).2 = 0 ∧ (oneD b).1.1 = t then ((oneD b).1.2, true) else ([], false)
theorem tag_ext : isTagD 48 = true ∧ isTagD 2 = true ∧ isTagD 3 = true ∧ isTagD 4 = true ∧ isTagD 10 = true ∧ isTagD 128 = true ∧ isTagD 1 = true := by decide
end Go.Pl
end
section
namespace Go.Pl
open Go.Vc
set_option linter.unusedVariables false
set_option linter.unusedSimpArgs false
abbrev GenT : Type := Int × List Int
abbrev gdft : GenT := ((0 : Int), ([] : List Int))
theorem ins_put {t : Int} {l : List EltT} (ht : isTagD t = true) (hl : ∀ x ∈ l, isTagD x.1 = true ∧ x.2.length ≤ 16777215) (hs : (l.flatMap putB).length ≤ 16777215) : insD (putB (t, l.flatMap putB)) t = (l, true) := by
  rw [insD, one_put (x := (t, l.flatMap putB)) ht hs, if_neg (by simp), all_flat hl]; simp
theorem one_bys {b : List Int} (hb : Bys b) (h : (oneD b).2 = 0) : Bys (oneD b).1.2 := by
  have e := (one_back hb h).2.2
  intro x hx
  refine hb x ?_
  rw [e, putB]
  exact List.mem_cons_of_mem _ (List.mem_append_right _ hx)
theorem ins_of {b : List Int} {t : Int} (hb : Bys b) (h : (insD b t).2 = true) : putB (t, (insD b t).1.flatMap putB) = b ∧ (∀ x ∈ (insD b t).1, isTagD x.1 = true ∧ x.2.length ≤ 16777215) ∧ ∀ x ∈ (insD b t).1, Bys x.2 := by
  unfold insD at h ⊢
  split at h
  . cases h
  . rename_i c
    rw [if_neg c]
    have c1 : (oneD b).2 = 0 := by
      by_cases e : (oneD b).2 = 0
      . exact e
      . exact absurd (.inl e) c
    have c2 : (oneD b).1.1 = t := by
      by_cases e : (oneD b).1.1 = t
      . exact e
      . exact absurd (.inr e) c
    have hB := one_bys hb c1
    have hf := flat_all hB (of_decide_eq_true h)
    have he := (one_back hb c1).2.2
    refine ⟨?_, hf.2, fun x hx y hy => hB y ?_⟩
    . simp only
      rw [← hf.1, ← c2]
      exact he.symm
    . rw [hf.1]
      refine List.mem_flatMap.2 ⟨x, hx, ?_⟩
      rw [putB]
      exact List.mem_cons_of_mem _ (List.mem_append_right _ hy)
def insL (b : List Int) : List EltT := (rowD (takeD b).1.2).1.map (·.2)
theorem one_take {b : List Int} (h : (oneD b).2 = 0) : (takeD b).1 = (oneD b).1 := by
  unfold oneD at h ⊢
  split at h
  . cases h
  . rename_i c; rw [if_neg c]
theorem all_row {b : List Int} (h : (allD b).2.2 = 0) : (rowD b).1.map (·.2) = (allD b).1 := by
  unfold allD at h ⊢
  split at h
  . rename_i c; exact absurd h c
  . rename_i c; rw [if_neg c]
theorem insL_of {b : List Int} {t : Int} (h : (insD b t).2 = true) : insL b = (insD b t).1 := by
  unfold insD at h ⊢
  split at h
  . cases h
  . rename_i c
    rw [if_neg c, insL]
    have c1 : (oneD b).2 = 0 := by
      by_cases e : (oneD b).2 = 0
      . exact e
      . exact absurd (.inl e) c
    rw [one_take c1]
    exact all_row (of_decide_eq_true h)
theorem flat_mem_len {α : Type} (f : α → List Int) : ∀ {l : List α} {x : α}, x ∈ l → (f x).length ≤ (l.flatMap f).length
  | a :: l, x, h => by
    rw [List.flatMap_cons, List.length_append]
    rcases List.mem_cons.1 h with rfl | h
    . omega
    . have := flat_mem_len f h; omega
theorem put_cont (x : EltT) : x.2.length ≤ (putB x).length := by rw [put_len]; omega
theorem flat_map_put {α : Type} (f : α → EltT) (l : List α) : l.flatMap (fun a => putB (f a)) = (l.map f).flatMap putB := by
  induction l with
  | nil => rfl
  | cons a l ih => simp only [List.flatMap_cons, List.map_cons, ih]
theorem take_bys {b : List Int} (hb : Bys b) : Bys (takeD b).1.2 := by
  unfold takeD
  split
  . intro x hx; cases hx
  split
  . intro x hx; cases hx
  . intro x hx
    exact hb x (List.mem_of_mem_drop (List.mem_of_mem_take hx))
theorem rowR_sum {b : List Int} (hb : Bys b) : ∀ (k : Nat) (i : Int), 0 ≤ i → i ≤ b.length → ((((rowR b k i).1.map (·.2)).flatMap (·.2)).length : Int) ≤ b.length - i ∧ ∀ x ∈ (rowR b k i).1.map (·.2), isTagD x.1 = true ∧ Bys x.2
  | 0, i, h0, h1 => by
    refine ⟨?_, fun x hx => by simp [rowR] at hx⟩
    simp [rowR]; omega
  | k + 1, i, h0, h1 => by
    rw [rowR]
    split
    . rename_i c
      split
      . refine ⟨?_, fun x hx => by simp at hx⟩
        simp; omega
      . rename_i e
        have e : (takeD (b.drop i.toNat)).2.2 = 0 := by simpa using e
        have hd : Bys (b.drop i.toNat) := fun x hx => hb x (List.mem_of_mem_drop hx)
        have hv := take_inv hd e
        have hk := take_ok hd e
        have hc := put_cont (takeD (b.drop i.toNat)).1
        have hlen : (b.drop i.toNat).length = b.length - i.toNat := List.length_drop
        obtain ⟨h2, h3⟩ := rowR_sum hb k (i + (takeD (b.drop i.toNat)).2.1) (by omega) (by omega)
        refine ⟨?_, fun x hx => ?_⟩
        . simp only [List.map_cons, List.flatMap_cons, List.length_append]
          omega
        . simp only [List.map_cons] at hx
          rcases List.mem_cons.1 hx with rfl | hx
          . exact ⟨hv.1, take_bys hd⟩
          . exact h3 x hx
    . refine ⟨?_, fun x hx => by simp at hx⟩
      simp; omega
theorem rowD_sum {b : List Int} (hb : Bys b) : (((rowD b).1.map (·.2)).flatMap (·.2)).length ≤ b.length ∧ ∀ x ∈ (rowD b).1.map (·.2), isTagD x.1 = true ∧ Bys x.2 := by
  obtain ⟨h1, h2⟩ := rowR_sum hb b.length 0 (Int.le_refl _) (by omega)
  exact ⟨by unfold rowD; omega, h2⟩
theorem insL_sum {b : List Int} (hb : Bys b) : ((insL b).flatMap (·.2)).length ≤ b.length ∧ ∀ x ∈ insL b, isTagD x.1 = true ∧ Bys x.2 := by
  obtain ⟨h1, h2⟩ := rowD_sum (take_bys hb)
  have := takeD_len b
  exact ⟨by unfold insL; omega, h2⟩
theorem ins_cont {b : List Int} {t : Int} (h : (contD b t).2 = true) : insD b t = ((allD (contD b t).1).1, decide ((allD (contD b t).1).2.2 = 0)) := by
  unfold contD at h ⊢
  split at h
  . rename_i c
    rw [if_pos c, insD, if_neg]
    rintro (q | q)
    . exact q c.1
    . exact q c.2
  . cases h
theorem ins_none {b : List Int} {t : Int} (h : (contD b t).2 = false) : insD b t = ([], false) := by
  unfold contD at h
  split at h
  . cases h
  . rename_i c
    rw [insD, if_pos]
    by_cases e : (oneD b).2 = 0
    . exact .inr fun e2 => c ⟨e, e2⟩
    . exact .inl e
abbrev GK : Kd := .pair (.int .i64) .str
def lenG (l : List GenT) : Nat := (l.flatMap fun g => g.2).length
def lenEs (l : List EltT) : Nat := (l.flatMap fun x => x.2).length
def tagG (k : Int) : Int := if k = 4 then 164 else 128 + k
def elG (g : GenT) : EltT := (tagG g.1, g.2)
def genB (g : GenT) : List Int := putB (elG g)
def genE (x : EltT) : GenT := (x.1 % 32, x.2)
def okE (x : EltT) : Bool := decide (x.1 = tagG (x.1 % 32))
theorem tagG_kind {k : Int} (h : kindG k) : isTagD (tagG k) = true ∧ tagG k % 32 = k := by
  rcases h with rfl | rfl | rfl | rfl <;> decide
theorem gen_el {g : GenT} (h : kindG g.1) : genE (elG g) = g ∧ okE (elG g) = true := by
  obtain ⟨k, t⟩ := g
  have h2 := (tagG_kind h).2
  refine ⟨?_, ?_⟩
  . show (tagG k % 32, t) = (k, t)
    rw [h2]
  . show decide (tagG k = tagG (tagG k % 32)) = true
    rw [h2]; exact decide_eq_true rfl
theorem el_gen {x : EltT} (h : okE x = true) : elG (genE x) = x := by
  obtain ⟨t, c⟩ := x
  have h : t = tagG (t % 32) := of_decide_eq_true h
  show (tagG (t % 32), c) = (t, c)
  rw [← h]
end Go.Pl
end
section
namespace Go.Pl
open Go.Vc
set_option linter.unusedVariables false
set_option linter.unusedSimpArgs false
def takeE (l : List EltT) (t : Int) : List Int × Bool × List EltT := if l = [] ∨ (l.getD 0 edft).1 ≠ t then ([], false, l) else ((l.getD 0 edft).2, true, l.drop 1)
theorem take_hit (t : Int) (c : List Int) (r : List EltT) : takeE ((t, c) :: r) t = (c, true, r) := by
  rw [takeE, if_neg (by simp)]; rfl
theorem take_miss {t u : Int} (c : List Int) (r : List EltT) (h : u ≠ t) : takeE ((u, c) :: r) t = ([], false, (u, c) :: r) := by
  rw [takeE, if_pos (.inr h)]
theorem take_true {l : List EltT} {t : Int} (h : (takeE l t).2.1 = true) : l = (t, (takeE l t).1) :: (takeE l t).2.2 := by
  unfold takeE at h ⊢
  split at h
  . cases h
  . rename_i c
    rw [if_neg c]
    match l, c with
    | [], c => exact absurd (.inl rfl) c
    | (u, d) :: r, c =>
      have : u = t := by
        by_cases e : u = t
        . exact e
        . exact absurd (.inr e) c
      subst this
      rfl
theorem take_false {l : List EltT} {t : Int} (h : (takeE l t).2.1 = false) : (takeE l t).2.2 = l := by
  unfold takeE at h ⊢
  split at h
  . rename_i c; rw [if_pos c]
  . cases h
def rowL (e : EltT) : List EltT := (rowD e.2).1.map (·.2)
def mayTr (t : GenT) : Bool := mayT t.1 t.2
def elT (t : GenT) : EltT := (48, genB t)
def subs (tag : Int) (l : List GenT) : List EltT := if l = [] then [] else [(tag, l.flatMap fun t => putB (elT t))]
def badTr (t : List GenT × List GenT) : Bool := decide (16 < t.1.length) || (decide (16 < t.2.length) || (!(t.1.all mayTr) || (!(t.2.all mayTr) || (decide (t.1 = []) && decide (t.2 = [])))))
def treesB (t : List GenT × List GenT) : List Int := putB (48, (subs 160 t.1 ++ subs 161 t.2).flatMap putB)
def TreesD (t : List GenT × List GenT) : List Int × Int := if badTr t = true then ([], 150) else (treesB t, 0)
def rdT (e : EltT) : GenT × Bool := if e.1 = 48 ∧ (oneD e.2).2 = 0 ∧ okE (oneD e.2).1 = true ∧ mayTr (genE (oneD e.2).1) = true then (genE (oneD e.2).1, true) else (gdft, false)
def rdS (l : List EltT) (tag : Int) : List GenT × List EltT × Bool :=
  if (takeE l tag).2.1 = false then ([], l, true)
  else if (allD (takeE l tag).1).2.2 = 0 ∧ (allD (takeE l tag).1).1 ≠ [] ∧ (allD (takeE l tag).1).1.length ≤ 16 ∧ ((allD (takeE l tag).1).1.all fun e => (rdT e).2) = true then
    ((allD (takeE l tag).1).1.map fun e => (rdT e).1, (takeE l tag).2.2, true) else ([], [], false)
def rdTs (l : List EltT) : (List GenT × List GenT) × Bool :=
  if (rdS l 160).2.2 = true ∧ (rdS (rdS l 160).2.1 161).2.2 = true ∧ (rdS (rdS l 160).2.1 161).2.1 = [] ∧ ¬ ((rdS l 160).1 = [] ∧ (rdS (rdS l 160).2.1 161).1 = []) then (((rdS l 160).1, (rdS (rdS l 160).2.1 161).1), true) else (([], []), false)
def ToTreesD (b : List Int) : (List GenT × List GenT) × Int := if (insD b 48).2 = true ∧ (rdTs (insD b 48).1).2 = true then ((rdTs (insD b 48).1).1, 0) else (([], []), 150)
theorem mayTr_kind {t : GenT} (h : mayTr t = true) : kindG t.1 := by
  unfold mayTr mayT at h
  by_cases h1 : t.1 = 1
  . exact .inl h1
  by_cases h2 : t.1 = 2
  . exact .inr (.inl h2)
  by_cases h4 : t.1 = 4
  . exact .inr (.inr (.inl h4))
  by_cases h7 : t.1 = 7
  . exact .inr (.inr (.inr h7))
  rw [if_neg h1, if_neg h2, if_neg h4, if_neg h7] at h
  cases h
def okTr (l : List GenT) : Bool := decide (l.length ≤ 16) && l.all mayTr
theorem rd_elT {t : GenT} (h : mayTr t = true) (hl : t.2.length ≤ 16777215) : rdT (elT t) = (t, true) := by
  have hk := mayTr_kind h
  have h1 := gen_el hk
  have ho : oneD (genB t) = (elG t, 0) := one_put (x := elG t) (tagG_kind hk).1 hl
  unfold rdT
  have e : (elT t).2 = genB t := rfl
  rw [e, ho]
  simp only
  rw [h1.1, if_pos ⟨rfl, by first | rfl | trivial, h1.2, h⟩]
theorem el_rdT {e : EltT} (hb : Bys e.2) (h : (rdT e).2 = true) : elT (rdT e).1 = e ∧ mayTr (rdT e).1 = true ∧ (takeD e.2).1 = elG (rdT e).1 := by
  unfold rdT at h ⊢
  split at h
  . rename_i c
    rw [if_pos c]
    obtain ⟨c1, c2, c3, c4⟩ := c
    have h1 := el_gen c3
    refine ⟨?_, c4, ?_⟩
    . show (48, putB (elG (genE (oneD e.2).1))) = e
      rw [h1, ← (one_back hb c2).2.2, ← c1]
    . rw [one_take c2, h1]
  . cases h
theorem badTr_no {t : List GenT × List GenT} (h : ¬ badTr t = true) : t.1.length ≤ 16 ∧ t.2.length ≤ 16 ∧ (∀ x ∈ t.1, mayTr x = true) ∧ (∀ x ∈ t.2, mayTr x = true) ∧ ¬ (t.1 = [] ∧ t.2 = []) := by
  have h : badTr t = false := by cases hh : badTr t <;> simp_all
  simp only [badTr, Bool.or_eq_false_iff, decide_eq_false_iff_not, Bool.not_eq_false', Bool.and_eq_false_iff] at h
  obtain ⟨h1, h2, h3, h4, h5⟩ := h
  refine ⟨by omega, by omega, fun x hx => List.all_eq_true.1 h3 x hx, fun x hx => List.all_eq_true.1 h4 x hx, ?_⟩
  rintro ⟨e1, e2⟩
  rcases h5 with h5 | h5
  . exact h5 e1
  . exact h5 e2
theorem no_badTr {t : List GenT × List GenT} (h1 : t.1.length ≤ 16) (h2 : t.2.length ≤ 16) (h3 : ∀ x ∈ t.1, mayTr x = true) (h4 : ∀ x ∈ t.2, mayTr x = true) (h5 : ¬ (t.1 = [] ∧ t.2 = [])) : badTr t = false := by
  simp only [badTr, Bool.or_eq_false_iff, decide_eq_false_iff_not, Bool.not_eq_false', Bool.and_eq_false_iff]
  refine ⟨by omega, by omega, List.all_eq_true.2 h3, List.all_eq_true.2 h4, ?_⟩
  by_cases e : t.1 = []
  . exact .inr fun e2 => h5 ⟨e, e2⟩
  . exact .inl e
theorem rdS_subs {tag : Int} {l : List GenT} {r : List EltT} (hm : ∀ x ∈ l, mayTr x = true) (h16 : l.length ≤ 16) (hl : (l.flatMap fun t => putB (elT t)).length ≤ 16777215) (hr : (takeE r tag).2.1 = false) : rdS (subs tag l ++ r) tag = (l, r, true) := by
  by_cases e : l = []
  . subst e
    show rdS r tag = _
    rw [rdS, if_pos hr]
  . have hs : subs tag l ++ r = (tag, l.flatMap fun t => putB (elT t)) :: r := by rw [subs, if_neg e]; rfl
    have hlen : ∀ x ∈ l, x.2.length ≤ 16777215 := fun x hx => by
      have h1 := flat_mem_len (fun t => putB (elT t)) hx
      have h2 := put_cont (elT x)
      have h3 := put_cont (elG x)
      have h4 : (elT x).2 = putB (elG x) := rfl
      have h5 : (elG x).2 = x.2 := rfl
      rw [h4] at h2
      rw [h5] at h3
      omega
    have ha : allD (l.flatMap fun t => putB (elT t)) = (l.map elT, ((l.flatMap fun t => putB (elT t)).length : Int), 0) := by
      rw [flat_map_put] at hl ⊢
      refine all_flat fun x hx => ?_
      obtain ⟨t, ht, rfl⟩ := List.mem_map.1 hx
      refine ⟨show isTagD 48 = true from by decide, ?_⟩
      have h1 := flat_mem_len putB hx
      have h2 := put_cont (elT t)
      omega
    have hrd : ∀ x ∈ l, rdT (elT x) = (x, true) := fun x hx => rd_elT (hm x hx) (hlen x hx)
    rw [hs, rdS, take_hit, if_neg (by simp)]
    simp only [ha]
    have hmap : (l.map elT).map (fun e => (rdT e).1) = l := by
      rw [List.map_map]
      conv => rhs; rw [← List.map_id l]
      exact List.map_congr_left fun x hx => by
        show (rdT (elT x)).1 = x
        rw [hrd x hx]
    have hok : ((l.map elT).all fun e => (rdT e).2) = true := List.all_eq_true.2 fun y hy => by
      obtain ⟨x, hx, rfl⟩ := List.mem_map.1 hy
      rw [hrd x hx]
    rw [hmap]
    exact if_pos ⟨by first | rfl | trivial, by simpa using e, by simpa using h16, hok⟩
theorem subs_rdS {tag : Int} {l : List EltT} (hb : ∀ e ∈ l, Bys e.2) (h : (rdS l tag).2.2 = true) : l = subs tag (rdS l tag).1 ++ (rdS l tag).2.1 ∧ (rdS l tag).1.length ≤ 16 ∧ (∀ x ∈ (rdS l tag).1, mayTr x = true) ∧
    ∀ e ∈ subs tag (rdS l tag).1, (rowL e).map (fun e => genE (takeD e.2).1) = (rdS l tag).1 := by
  unfold rdS at h ⊢
  split at h
  . rename_i c
    rw [if_pos c]
    exact ⟨rfl, Nat.zero_le _, fun x hx => by (cases hx), fun e he => by (cases he)⟩
  . rename_i c
    split at h
    . rename_i c2
      rw [if_neg c, if_pos c2]
      obtain ⟨c1, c2, c3, c4⟩ := c2
      have e1 := take_true (l := l) (t := tag) (by simpa using c)
      generalize takeE l tag = a at *
      obtain ⟨q, _, r⟩ := a
      simp only at *
      have hq : Bys q := hb (tag, q) (by rw [e1]; exact List.mem_cons_self)
      have hf := flat_all hq c1
      have hB : ∀ y ∈ (allD q).1, Bys y.2 := fun y hy z hz => hq z (by
        rw [hf.1]
        refine List.mem_flatMap.2 ⟨y, hy, ?_⟩
        rw [putB]
        exact List.mem_cons_of_mem _ (List.mem_append_right _ hz))
      have hel : ∀ e ∈ (allD q).1, elT (rdT e).1 = e ∧ mayTr (rdT e).1 = true ∧ (takeD e.2).1 = elG (rdT e).1 := fun e he => el_rdT (hB e he) (List.all_eq_true.1 c4 e he)
      have hmap : ((allD q).1.map fun e => (rdT e).1).flatMap (fun t => putB (elT t)) = q := by
        rw [flat_map_put, List.map_map]
        have : (allD q).1.map (elT ∘ fun e => (rdT e).1) = (allD q).1 := by
          conv => rhs; rw [← List.map_id (allD q).1]
          exact List.map_congr_left fun x hx => (hel x hx).1
        rw [this, ← hf.1]
      have hs : subs tag ((allD q).1.map fun e => (rdT e).1) = [(tag, q)] := by
        rw [subs, if_neg (by simpa using c2), hmap]
      rw [hs]
      refine ⟨e1, by simpa using c3, fun x hx => ?_, fun e he => ?_⟩
      . obtain ⟨y, hy, rfl⟩ := List.mem_map.1 hx
        exact (hel y hy).2.1
      . simp only [List.mem_cons, List.not_mem_nil, or_false] at he
        subst he
        rw [rowL, all_row c1]
        refine List.map_congr_left fun y hy => ?_
        rw [(hel y hy).2.2]
        exact (gen_el (mayTr_kind (hel y hy).2.1)).1
    . cases h
theorem subs_tag {tag : Int} {l : List GenT} : ∀ e ∈ subs tag l, e.1 = tag := by
  intro e he
  unfold subs at he
  split at he
  . cases he
  . simp only [List.mem_cons, List.not_mem_nil, or_false] at he
    rw [he]
theorem take_subs {t u : Int} (h : u ≠ t) (l : List GenT) : (takeE (subs u l) t).2.1 = false := by
  unfold subs
  split
  . rfl
  . rw [take_miss _ _ h]
theorem trees_back {t : List GenT × List GenT} {b : List Int} (hl : b.length ≤ 16777215) (h : TreesD t = (b, 0)) : ToTreesD b = (t, 0) := by
  unfold TreesD at h
  split at h
  . cases h
  . rename_i c
    obtain ⟨e, _⟩ := Prod.mk.inj h
    obtain ⟨p, x⟩ := t
    obtain ⟨h1, h2, h3, h4, h5⟩ := badTr_no c
    simp only at h1 h2 h3 h4 h5
    have hin : ((subs 160 p ++ subs 161 x).flatMap putB).length ≤ 16777215 := by
      have := put_cont (48, (subs 160 p ++ subs 161 x).flatMap putB)
      have e2 : putB (48, (subs 160 p ++ subs 161 x).flatMap putB) = b := e
      rw [e2] at this
      simp only at this
      omega
    have hsub : ∀ (tag : Int) (l : List GenT), (tag = 160 ∧ l = p ∨ tag = 161 ∧ l = x) → (l.flatMap fun t => putB (elT t)).length ≤ 16777215 := by
      intro tag l hc
      by_cases el : l = []
      . subst el; simp
      . have hmem : (tag, l.flatMap fun t => putB (elT t)) ∈ subs 160 p ++ subs 161 x := by
          rcases hc with ⟨rfl, rfl⟩ | ⟨rfl, rfl⟩
          . exact List.mem_append_left _ (by rw [subs, if_neg el]; exact List.mem_cons_self)
          . exact List.mem_append_right _ (by rw [subs, if_neg el]; exact List.mem_cons_self)
        have h1 := flat_mem_len putB hmem
        have h2 := put_cont (tag, l.flatMap fun t => putB (elT t))
        simp only at h2
        omega
    have hi : insD b 48 = (subs 160 p ++ subs 161 x, true) := by
      rw [← e]
      refine ins_put tag_ext.1 (fun y hy => ?_) hin
      have h1 := flat_mem_len putB hy
      have h2 := put_cont y
      have hin2 : ((subs 160 (p, x).1 ++ subs 161 (p, x).2).flatMap putB).length ≤ 16777215 := hin
      refine ⟨?_, by omega⟩
      rcases List.mem_append.1 hy with hy | hy
      . rw [subs_tag y hy]; decide
      . rw [subs_tag y hy]; decide
    have hp := rdS_subs (tag := 160) (r := subs 161 x) h3 h1 (hsub 160 p (.inl ⟨rfl, rfl⟩)) (take_subs (by decide) x)
    have hx := rdS_subs (tag := 161) (r := []) h4 h2 (hsub 161 x (.inr ⟨rfl, rfl⟩)) rfl
    rw [List.append_nil] at hx
    have hr : rdTs (subs 160 p ++ subs 161 x) = ((p, x), true) := by
      rw [rdTs, hp]
      simp only
      rw [hx]
      exact if_pos ⟨by first | rfl | trivial, by first | rfl | trivial, by first | rfl | trivial, h5⟩
    rw [ToTreesD, hi]
    simp only
    rw [hr]
    exact if_pos ⟨by first | rfl | trivial, by first | rfl | trivial⟩
def gT (e : EltT) : List GenT := (rowL e).map fun e => genE (takeD e.2).1
def guessP (l : List EltT) : List GenT := l.flatMap fun e => if e.1 = 160 then gT e else []
def guessX (l : List EltT) : List GenT := l.flatMap fun e => if e.1 = 160 then [] else gT e
theorem flat_subs {tag : Int} {l : List GenT} {f : EltT → List GenT} (h : ∀ e ∈ subs tag l, f e = l) : (subs tag l).flatMap f = l := by
  unfold subs at h ⊢
  split
  . rename_i c; rw [c]; rfl
  . rename_i c
    rw [if_neg c] at h
    simp only [List.flatMap_cons, List.flatMap_nil, List.append_nil]
    exact h _ List.mem_cons_self
theorem flat_none {l : List EltT} {f : EltT → List GenT} (h : ∀ e ∈ l, f e = []) : l.flatMap f = [] := by
  induction l with
  | nil => rfl
  | cons a l ih =>
    rw [List.flatMap_cons, h a List.mem_cons_self, ih fun e he => h e (List.mem_cons_of_mem _ he)]; rfl
theorem trees_once {b : List Int} {t : List GenT × List GenT} (hb : Bys b) (h : ToTreesD b = (t, 0)) : TreesD t = (b, 0) ∧ t = (guessP (insL b), guessX (insL b)) := by
  unfold ToTreesD at h
  split at h
  . rename_i c
    obtain ⟨c1, c2⟩ := c
    obtain ⟨e, _⟩ := Prod.mk.inj h
    subst e
    have hi := ins_of hb c1
    rw [insL_of c1]
    generalize (insD b 48).1 = l at *
    unfold rdTs at c2 ⊢
    split at c2
    . rename_i c
      rw [if_pos c]
      obtain ⟨d1, d2, d3, d4⟩ := c
      have s1 := subs_rdS hi.2.2 d1
      have hB : ∀ e ∈ (rdS l 160).2.1, Bys e.2 := fun e he => hi.2.2 e (by rw [s1.1]; exact List.mem_append_right _ he)
      have s2 := subs_rdS hB d2
      rw [d3, List.append_nil] at s2
      generalize hp : (rdS l 160).1 = p at *
      generalize hq : (rdS l 160).2.1 = q at *
      generalize hx : (rdS q 161).1 = x at *
      have hl : l = subs 160 p ++ subs 161 x := by rw [← s2.1]; exact s1.1
      refine ⟨?_, ?_⟩
      . rw [TreesD, if_neg (by rw [no_badTr (t := (p, x)) s1.2.1 s2.2.1 s1.2.2.1 s2.2.2.1 d4]; decide), treesB]
        simp only
        rw [← hl, hi.1]
      . have g1 : guessP l = p := by
          rw [guessP, hl, List.flatMap_append]
          rw [flat_subs (l := p) (fun e he => by rw [if_pos (subs_tag e he)]; exact s1.2.2.2 e he), flat_none (l := subs 161 x) (fun e he => by rw [if_neg (by rw [subs_tag e he]; decide)]), List.append_nil]
        have g2 : guessX l = x := by
          rw [guessX, hl, List.flatMap_append]
          rw [flat_subs (l := x) (fun e he => by rw [if_neg (by rw [subs_tag e he]; decide)]; exact s2.2.2.2 e he), flat_none (l := subs 160 p) (fun e he => by rw [if_pos (subs_tag e he)])]
          rfl
        rw [g1, g2]
    . cases c2
  . cases h
theorem trees_bad {b : List Int} (h : (ToTreesD b).2 ≠ 0) : ToTreesD b = (([], []), 150) := by
  unfold ToTreesD at h ⊢
  split
  . rename_i c; rw [if_pos c] at h; exact absurd rfl h
  . rfl
theorem trees_ref {b : List Int} (hb : Bys b) (hl : b.length ≤ 16777215) : ToTreesD b = if TreesD (guessP (insL b), guessX (insL b)) = (b, 0) then ((guessP (insL b), guessX (insL b)), 0) else (([], []), 150) := by
  split
  . rename_i c; exact trees_back hl c
  . rename_i c
    by_cases h : (ToTreesD b).2 = 0
    . have h1 := trees_once (t := (ToTreesD b).1) hb (Prod.ext rfl h)
      rw [h1.2] at h1
      exact absurd h1.1 c
    . exact trees_bad h
end Go.Pl
end
section
namespace Go.Pl
open Go.Vc
set_option linter.unusedVariables false
set_option linter.unusedSimpArgs false
theorem contD_len (b : List Int) (t : Int) : (contD b t).1.length ≤ b.length := by
  unfold contD
  split
  . exact oneD_len b
  . exact Nat.zero_le _
end Go.Pl
end
