/- Texts of a verified walk, led together: NumB, ExtR, ExtN, ExtX, ExtB. -/
import Derived.Test.YtiofbnlbfmbodaaGreatDoorZV17
import Derived.Test.YtiofbnlbfmbodaaGreatDoorZV18
import Derived.Test.YtiofbnlbfmbodaaGreatDoorZV14
import Derived.Test.YtiofbnlbfmbodaaGreatDoorZV11
import Derived.Test.YtiofbnlbfmbodaaGreatDoorZV16
set_option linter.unusedVariables false
set_option linter.unusedSimpArgs false
section
namespace Go.Pl
open Go.Vc
set_option linter.unusedVariables false
set_option linter.unusedSimpArgs false
end Go.Pl
end
section
namespace Go.Pl
open Go.Vc
set_option linter.unusedVariables false
set_option linter.unusedSimpArgs false
def contD (b : List Int) (t : Int) : List Int × Bool := if (oneD b).2 = 0 ∧ (oneD b).1.1 = t then ((oneD b).1.2, true) else ([], false)
theorem tag_ext : isTagD 48 = true ∧ isTagD 2 = true ∧ isTagD 3 = true ∧ isTagD 4 = true ∧ isTagD 10 = true ∧ isTagD 128 = true ∧ isTagD 1 = true := by decide
end Go.Pl
end
section
namespace Go.Pl
open Go.Vc
set_option linter.unusedVariables false
set_option linter.unusedSimpArgs false
abbrev GenT : Type := Int × List Int
abbrev gdft : GenT := ((0 : Int), ([] : List Int))
theorem ins_put {t : Int} {l : List EltT} (ht : isTagD t = true) (hl : ∀ x ∈ l, isTagD x.1 = true ∧ x.2.length ≤ 16777215) (hs : (l.flatMap putB).length ≤ 16777215) : insD (putB (t, l.flatMap putB)) t = (l, true) := by
  rw [insD, one_put (x := (t, l.flatMap putB)) ht hs, if_neg (by simp), all_flat hl]; simp
theorem one_bys {b : List Int} (hb : Bys b) (h : (oneD b).2 = 0) : Bys (oneD b).1.2 := by
  have e := (one_back hb h).2.2
  intro x hx
  refine hb x ?_
  rw [e, putB]
  exact List.mem_cons_of_mem _ (List.mem_append_right _ hx)
theorem ins_of {b : List Int} {t : Int} (hb : Bys b) (h : (insD b t).2 = true) : putB (t, (insD b t).1.flatMap putB) = b ∧ (∀ x ∈ (insD b t).1, isTagD x.1 = true ∧ x.2.length ≤ 16777215) ∧ ∀ x ∈ (insD b t).1, Bys x.2 := by
  unfold insD at h ⊢
  split at h
  . cases h
  . rename_i c
    rw [if_neg c]
    have c1 : (oneD b).2 = 0 := by
      by_cases e : (oneD b).2 = 0
      . exact e
      . exact absurd (.inl e) c
    have c2 : (oneD b).1.1 = t := by
      by_cases e : (oneD b).1.1 = t
      . exact e
      . exact absurd (.inr e) c
    have hB := one_bys hb c1
    have hf := flat_all hB (of_decide_eq_true h)
    have he := (one_back hb c1).2.2
    refine ⟨?_, hf.2, fun x hx y hy => hB y ?_⟩
    . simp only
      rw [← hf.1, ← c2]
      exact he.symm
    . rw [hf.1]
      refine List.mem_flatMap.2 ⟨x, hx, ?_⟩
      rw [putB]
      exact List.mem_cons_of_mem _ (List.mem_append_right _ hy)
def insL (b : List Int) : List EltT := (rowD (takeD b).1.2).1.map (·.2)
theorem one_take {b : List Int} (h : (oneD b).2 = 0) : (takeD b).1 = (oneD b).1 := by
  unfold oneD at h ⊢
  split at h
  . cases h
  . rename_i c; rw [if_neg c]
theorem all_row {b : List Int} (h : (allD b).2.2 = 0) : (rowD b).1.map (·.2) = (allD b).1 := by
  unfold allD at h ⊢
  split at h
  . rename_i c; exact absurd h c
  . rename_i c; rw [if_neg c]
theorem insL_of {b : List Int} {t : Int} (h : (insD b t).2 = true) : insL b = (insD b t).1 := by
  unfold insD at h ⊢
  split at h
  . cases h
  . rename_i c
    rw [if_neg c, insL]
    have c1 : (oneD b).2 = 0 := by
      by_cases e : (oneD b).2 = 0
      . exact e
      . exact absurd (.inl e) c
    rw [one_take c1]
    exact all_row (of_decide_eq_true h)
theorem flat_mem_len {α : Type} (f : α → List Int) : ∀ {l : List α} {x : α}, x ∈ l → (f x).length ≤ (l.flatMap f).length
  | a :: l, x, h => by
    rw [List.flatMap_cons, List.length_append]
    rcases List.mem_cons.1 h with rfl | h
    . omega
    . have := flat_mem_len f h; omega
theorem put_cont (x : EltT) : x.2.length ≤ (putB x).length := by rw [put_len]; omega
theorem flat_map_put {α : Type} (f : α → EltT) (l : List α) : l.flatMap (fun a => putB (f a)) = (l.map f).flatMap putB := by
  induction l with
  | nil => rfl
  | cons a l ih => simp only [List.flatMap_cons, List.map_cons, ih]
theorem ins_row {α : Type} {f : α → EltT} {t : Int} {l : List α} {b : List Int} (hb : b.length ≤ 16777215) (ht : isTagD t = true) (hf : ∀ a ∈ l, isTagD (f a).1 = true) (e : b = putB (t, l.flatMap fun a => putB (f a))) : insD b t = (l.map f, true) := by
  have hl : (l.flatMap fun a => putB (f a)).length ≤ 16777215 := by
    have := put_cont (t, l.flatMap fun a => putB (f a))
    rw [← e] at this
    simp only at this
    omega
  rw [flat_map_put] at e hl
  rw [e]
  refine ins_put ht (fun x hx => ?_) hl
  obtain ⟨a, ha, rfl⟩ := List.mem_map.1 hx
  refine ⟨hf a ha, ?_⟩
  have h1 := flat_mem_len putB hx
  have h2 := put_cont (f a)
  omega
theorem take_bys {b : List Int} (hb : Bys b) : Bys (takeD b).1.2 := by
  unfold takeD
  split
  . intro x hx; cases hx
  split
  . intro x hx; cases hx
  . intro x hx
    exact hb x (List.mem_of_mem_drop (List.mem_of_mem_take hx))
theorem rowR_sum {b : List Int} (hb : Bys b) : ∀ (k : Nat) (i : Int), 0 ≤ i → i ≤ b.length → ((((rowR b k i).1.map (·.2)).flatMap (·.2)).length : Int) ≤ b.length - i ∧ ∀ x ∈ (rowR b k i).1.map (·.2), isTagD x.1 = true ∧ Bys x.2
  | 0, i, h0, h1 => by
    refine ⟨?_, fun x hx => by simp [rowR] at hx⟩
    simp [rowR]; omega
  | k + 1, i, h0, h1 => by
    rw [rowR]
    split
    . rename_i c
      split
      . refine ⟨?_, fun x hx => by simp at hx⟩
        simp; omega
      . rename_i e
        have e : (takeD (b.drop i.toNat)).2.2 = 0 := by simpa using e
        have hd : Bys (b.drop i.toNat) := fun x hx => hb x (List.mem_of_mem_drop hx)
        have hv := take_inv hd e
        have hk := take_ok hd e
        have hc := put_cont (takeD (b.drop i.toNat)).1
        have hlen : (b.drop i.toNat).length = b.length - i.toNat := List.length_drop
        obtain ⟨h2, h3⟩ := rowR_sum hb k (i + (takeD (b.drop i.toNat)).2.1) (by omega) (by omega)
        refine ⟨?_, fun x hx => ?_⟩
        . simp only [List.map_cons, List.flatMap_cons, List.length_append]
          omega
        . simp only [List.map_cons] at hx
          rcases List.mem_cons.1 hx with rfl | hx
          . exact ⟨hv.1, take_bys hd⟩
          . exact h3 x hx
    . refine ⟨?_, fun x hx => by simp at hx⟩
      simp; omega
theorem rowD_sum {b : List Int} (hb : Bys b) : (((rowD b).1.map (·.2)).flatMap (·.2)).length ≤ b.length ∧ ∀ x ∈ (rowD b).1.map (·.2), isTagD x.1 = true ∧ Bys x.2 := by
  obtain ⟨h1, h2⟩ := rowR_sum hb b.length 0 (Int.le_refl _) (by omega)
  exact ⟨by unfold rowD; omega, h2⟩
theorem insL_sum {b : List Int} (hb : Bys b) : ((insL b).flatMap (·.2)).length ≤ b.length ∧ ∀ x ∈ insL b, isTagD x.1 = true ∧ Bys x.2 := by
  obtain ⟨h1, h2⟩ := rowD_sum (take_bys hb)
  have := takeD_len b
  exact ⟨by unfold insL; omega, h2⟩
theorem ins_cont {b : List Int} {t : Int} (h : (contD b t).2 = true) : insD b t = ((allD (contD b t).1).1, decide ((allD (contD b t).1).2.2 = 0)) := by
  unfold contD at h ⊢
  split at h
  . rename_i c
    rw [if_pos c, insD, if_neg]
    rintro (q | q)
    . exact q c.1
    . exact q c.2
  . cases h
theorem ins_none {b : List Int} {t : Int} (h : (contD b t).2 = false) : insD b t = ([], false) := by
  unfold contD at h
  split at h
  . cases h
  . rename_i c
    rw [insD, if_pos]
    by_cases e : (oneD b).2 = 0
    . exact .inr fun e2 => c ⟨e, e2⟩
    . exact .inl e
abbrev GK : Kd := .pair (.int .i64) .str
def lenG (l : List GenT) : Nat := (l.flatMap fun g => g.2).length
def tagG (k : Int) : Int := if k = 4 then 164 else 128 + k
def elG (g : GenT) : EltT := (tagG g.1, g.2)
def genB (g : GenT) : List Int := putB (elG g)
def genE (x : EltT) : GenT := (x.1 % 32, x.2)
def okE (x : EltT) : Bool := decide (x.1 = tagG (x.1 % 32))
def okG (x : EltT) : Bool := okE x && mayG (x.1 % 32) x.2
def NamesD (l : List GenT) : List Int × Int := if l = [] ∨ 16 < l.length ∨ (l.all fun g => mayG g.1 g.2) = false then ([], 150) else (putB (48, l.flatMap genB), 0)
def ToNamesD (b : List Int) : List GenT × Int :=
  if (insD b 48).2 = true ∧ (insD b 48).1.all okG = true ∧ (insD b 48).1 ≠ [] ∧ (insD b 48).1.length ≤ 16 then ((insD b 48).1.map genE, 0) else ([], 150)
theorem tagG_kind {k : Int} (h : kindG k) : isTagD (tagG k) = true ∧ tagG k % 32 = k := by
  rcases h with rfl | rfl | rfl | rfl <;> decide
theorem gen_el {g : GenT} (h : kindG g.1) : genE (elG g) = g ∧ okE (elG g) = true := by
  obtain ⟨k, t⟩ := g
  have h2 := (tagG_kind h).2
  refine ⟨?_, ?_⟩
  . show (tagG k % 32, t) = (k, t)
    rw [h2]
  . show decide (tagG k = tagG (tagG k % 32)) = true
    rw [h2]; exact decide_eq_true rfl
theorem el_gen {x : EltT} (h : okE x = true) : elG (genE x) = x := by
  obtain ⟨t, c⟩ := x
  have h : t = tagG (t % 32) := of_decide_eq_true h
  show (tagG (t % 32), c) = (t, c)
  rw [← h]
theorem okG_el {g : GenT} (h : mayG g.1 g.2 = true) : okG (elG g) = true := by
  have h1 := gen_el (g := g) (may_kind' h)
  unfold okG
  rw [h1.2, Bool.true_and]
  have : (genE (elG g)) = g := h1.1
  have h2 : (elG g).1 % 32 = g.1 := congrArg Prod.fst this
  rw [h2]
  exact h
theorem names_back {l : List GenT} {b : List Int} (hl : b.length ≤ 16777215) (h : NamesD l = (b, 0)) : ToNamesD b = (l, 0) := by
  unfold NamesD at h
  split at h
  . cases h
  . rename_i c
    obtain ⟨e, _⟩ := Prod.mk.inj h
    have hm : ∀ g ∈ l, mayG g.1 g.2 = true := by
      have : (l.all fun g => mayG g.1 g.2) = true := by
        cases hh : (l.all fun g => mayG g.1 g.2)
        . exact absurd (.inr (.inr hh)) c
        . rfl
      exact fun g hg => List.all_eq_true.1 this g hg
    have hne : l ≠ [] := fun e => c (.inl e)
    have h16 : l.length ≤ 16 := by
      by_cases q : 16 < l.length
      . exact absurd (.inr (.inl q)) c
      . omega
    have hi := ins_row (f := elG) (l := l) hl tag_ext.1 (fun g hg => (tagG_kind (may_kind' (hm g hg))).1) e.symm
    rw [ToNamesD, hi, if_pos]
    . have : (l.map elG).map genE = l := by
        rw [List.map_map]
        conv => rhs; rw [← List.map_id l]
        exact List.map_congr_left fun g hg => (gen_el (may_kind' (hm g hg))).1
      rw [this]
    . refine ⟨rfl, List.all_eq_true.2 fun x hx => ?_, by simpa using hne, by simpa using h16⟩
      obtain ⟨g, hg, rfl⟩ := List.mem_map.1 hx
      exact okG_el (hm g hg)
theorem okG_may {x : EltT} (h : okG x = true) : okE x = true ∧ mayG (genE x).1 (genE x).2 = true := by
  unfold okG at h
  exact Bool.and_eq_true_iff.1 h
theorem names_once {b : List Int} {l : List GenT} (hb : Bys b) (h : ToNamesD b = (l, 0)) : NamesD l = (b, 0) ∧ l = (insL b).map genE := by
  unfold ToNamesD at h
  split at h
  . rename_i c
    obtain ⟨c1, c2, c3, c4⟩ := c
    obtain ⟨e, _⟩ := Prod.mk.inj h
    subst e
    have hall : ∀ x ∈ (insD b 48).1, okG x = true := fun x hx => List.all_eq_true.1 c2 x hx
    have hi := ins_of hb c1
    refine ⟨?_, by rw [insL_of c1]⟩
    rw [NamesD, if_neg]
    . have : ((insD b 48).1.map genE).flatMap genB = (insD b 48).1.flatMap putB := by
        show ((insD b 48).1.map genE).flatMap (fun g => putB (elG g)) = _
        rw [flat_map_put, List.map_map]
        have : (insD b 48).1.map (elG ∘ genE) = (insD b 48).1 := by
          conv => rhs; rw [← List.map_id (insD b 48).1]
          exact List.map_congr_left fun x hx => el_gen (okG_may (hall x hx)).1
        rw [this]
      rw [this, hi.1]
    . rintro (q | q | q)
      . simp at q; exact c3 q
      . simp at q; omega
      . have : ((insD b 48).1.map genE).all (fun g => mayG g.1 g.2) = true := List.all_eq_true.2 fun g hg => by
          obtain ⟨x, hx, rfl⟩ := List.mem_map.1 hg
          exact (okG_may (hall x hx)).2
        rw [this] at q
        cases q
  . cases h
theorem names_bad {b : List Int} (h : (ToNamesD b).2 ≠ 0) : ToNamesD b = ([], 150) := by
  unfold ToNamesD at h ⊢
  split
  . rename_i c; rw [if_pos c] at h; exact absurd rfl h
  . rfl
theorem names_ref {b : List Int} (hb : Bys b) (hl : b.length ≤ 16777215) : ToNamesD b = if NamesD ((insL b).map genE) = (b, 0) then ((insL b).map genE, 0) else ([], 150) := by
  split
  . rename_i c; exact names_back hl c
  . rename_i c
    by_cases h : (ToNamesD b).2 = 0
    . have h1 := names_once (l := (ToNamesD b).1) hb (Prod.ext rfl h)
      rw [h1.2] at h1
      exact absurd h1.1 c
    . exact names_bad h
def unlikeK (l : List Int) (lo hi : Int) : Bool := (l.all fun n => decide (lo ≤ n) && decide (n ≤ hi)) && decide l.Nodup
def lastO (b ahead : List Int) : Int × Bool := if (DecD b).2 = 0 ∧ (DecD b).1.length = ahead.length + 1 ∧ (DecD b).1.take ahead.length = ahead then ((DecD b).1.getD ahead.length 0, true) else (0, false)
def lastL (b : List Int) : Int := if (DecD b).1 = [] then -1 else (DecD b).1.getD ((DecD b).1.length - 1) 0
theorem arc_snoc {l a : List Int} (h : l.length = a.length + 1) (ht : l.take a.length = a) : l = a ++ [l.getD a.length 0] := by
  have h1 := List.take_append_drop a.length l
  have h2 : l.drop a.length = [l.getD a.length 0] := by
    have h3 : (l.drop a.length).length = 1 := by simp; omega
    match hd : l.drop a.length, h3 with
    | [x], _ =>
      have : l.getD a.length 0 = x := by
        have h4 : (l.drop a.length).getD 0 0 = x := by rw [hd]; rfl
        rw [List.getD_eq_getElem?_getD, List.getElem?_drop, Nat.add_zero] at h4
        rw [List.getD_eq_getElem?_getD]; exact h4
      rw [this]
  rw [ht, h2] at h1
  exact h1.symm
theorem last_enc {a : List Int} {n : Int} (h : mayO (a ++ [n]) = true) : lastO (encO (a ++ [n])) a = (n, true) ∧ lastL (encO (a ++ [n])) = n := by
  have hd := dec_enc h
  have hg : (a ++ [n]).getD a.length 0 = n := by simp [List.getD_eq_getElem?_getD]
  refine ⟨?_, ?_⟩
  . rw [lastO, hd, if_pos ⟨rfl, by simp, by simp⟩]
    simp only [hg]
  . rw [lastL, hd, if_neg (by simp)]
    simp only [List.length_append, List.length_cons, List.length_nil]
    exact hg
theorem last_of {b a : List Int} (hb : Bys b) (h : (lastO b a).2 = true) : mayO (a ++ [(lastO b a).1]) = true ∧ encO (a ++ [(lastO b a).1]) = b := by
  unfold lastO at h ⊢
  split at h
  . rename_i c
    obtain ⟨c1, c2, c3⟩ := c
    rw [if_pos ⟨c1, c2, c3⟩]
    have := enc_dec (x := (DecD b).1) hb (Prod.ext rfl c1)
    rw [arc_snoc c2 c3] at this
    exact this
  . cases h
def purA : List Int := [1, 3, 6, 1, 5, 5, 7, 3]
def elP (n : Int) : EltT := (6, encO (purA ++ [n]))
def purB (n : Int) : List Int := putB (elP n)
def PurposesD (l : List Int) : List Int × Int := if l = [] ∨ 16 < l.length ∨ unlikeK l 1 127 = false then ([], 150) else (putB (48, l.flatMap purB), 0)
def okP (x : EltT) : Bool := decide (x.1 = 6) && (lastO x.2 purA).2
def ToPurposesD (b : List Int) : List Int × Int :=
  if (insD b 48).2 = true ∧ (insD b 48).1.all okP = true ∧ (insD b 48).1 ≠ [] ∧ (insD b 48).1.length ≤ 16 ∧ unlikeK ((insD b 48).1.map fun x => (lastO x.2 purA).1) 1 127 = true then ((insD b 48).1.map fun x => (lastO x.2 purA).1, 0) else ([], 150)
theorem pur_may {n : Int} (h0 : 0 ≤ n) (h1 : n ≤ 127) : mayO (purA ++ [n]) = true := by
  simp [mayO, inArc, purA]
  omega
theorem unlike_in {l : List Int} {lo hi : Int} (h : unlikeK l lo hi = true) : ∀ n ∈ l, lo ≤ n ∧ n ≤ hi := by
  intro n hn
  have := List.all_eq_true.1 (Bool.and_eq_true_iff.1 h).1 n hn
  simpa using this
theorem purposes_back {l b : List Int} (hl : b.length ≤ 16777215) (h : PurposesD l = (b, 0)) : ToPurposesD b = (l, 0) := by
  unfold PurposesD at h
  split at h
  . cases h
  . rename_i c
    obtain ⟨e, _⟩ := Prod.mk.inj h
    have hu : unlikeK l 1 127 = true := by
      cases hh : unlikeK l 1 127
      . exact absurd (.inr (.inr hh)) c
      . rfl
    have hne : l ≠ [] := fun e => c (.inl e)
    have h16 : l.length ≤ 16 := by
      by_cases q : 16 < l.length
      . exact absurd (.inr (.inl q)) c
      . omega
    have hin := unlike_in hu
    have hi := ins_row (f := elP) (l := l) hl tag_ext.1 (fun n hn => show isTagD 6 = true from by decide) e.symm
    have hlast : ∀ n ∈ l, lastO (elP n).2 purA = (n, true) := fun n hn => (last_enc (pur_may (by have := hin n hn; omega) (hin n hn).2)).1
    have hm : (l.map elP).map (fun x => (lastO x.2 purA).1) = l := by
      rw [List.map_map]
      conv => rhs; rw [← List.map_id l]
      exact List.map_congr_left fun n hn => by
        show (lastO (elP n).2 purA).1 = n
        rw [hlast n hn]
    have hok : (l.map elP).all okP = true := List.all_eq_true.2 fun x hx => by
      obtain ⟨n, hn, rfl⟩ := List.mem_map.1 hx
      unfold okP
      rw [hlast n hn]; rfl
    rw [ToPurposesD, hi]
    simp only [hm]
    exact if_pos ⟨by first | rfl | trivial, hok, by simpa using hne, by simpa using h16, hu⟩
theorem purposes_once {b l : List Int} (hb : Bys b) (h : ToPurposesD b = (l, 0)) : PurposesD l = (b, 0) ∧ l = (insL b).map fun x => lastL x.2 := by
  unfold ToPurposesD at h
  split at h
  . rename_i c
    obtain ⟨c1, c2, c3, c4, c5⟩ := c
    obtain ⟨e, _⟩ := Prod.mk.inj h
    subst e
    have hi := ins_of hb c1
    have hall : ∀ x ∈ (insD b 48).1, x.1 = 6 ∧ (lastO x.2 purA).2 = true := fun x hx => by
      have := List.all_eq_true.1 c2 x hx
      simpa [okP] using this
    have hel : ∀ x ∈ (insD b 48).1, elP (lastO x.2 purA).1 = x ∧ lastL x.2 = (lastO x.2 purA).1 := fun x hx => by
      obtain ⟨h1, h2⟩ := hall x hx
      obtain ⟨h3, h4⟩ := last_of (hi.2.2 x hx) h2
      refine ⟨?_, ?_⟩
      . unfold elP
        rw [h4, ← h1]
      . conv => lhs; rw [← h4]
        exact (last_enc h3).2
    refine ⟨?_, ?_⟩
    . rw [PurposesD, if_neg]
      . have : ((insD b 48).1.map fun x => (lastO x.2 purA).1).flatMap purB = (insD b 48).1.flatMap putB := by
          show ((insD b 48).1.map fun x => (lastO x.2 purA).1).flatMap (fun n => putB (elP n)) = _
          rw [flat_map_put, List.map_map]
          have : (insD b 48).1.map (elP ∘ fun x => (lastO x.2 purA).1) = (insD b 48).1 := by
            conv => rhs; rw [← List.map_id (insD b 48).1]
            exact List.map_congr_left fun x hx => (hel x hx).1
          rw [this]
        rw [this, hi.1]
      . rintro (q | q | q)
        . simp at q; exact c3 q
        . simp at q; omega
        . rw [c5] at q; cases q
    . rw [insL_of c1]
      exact List.map_congr_left fun x hx => (hel x hx).2.symm
  . cases h
theorem purposes_bad {b : List Int} (h : (ToPurposesD b).2 ≠ 0) : ToPurposesD b = ([], 150) := by
  unfold ToPurposesD at h ⊢
  split
  . rename_i c; rw [if_pos c] at h; exact absurd rfl h
  . rfl
theorem purposes_ref {b : List Int} (hb : Bys b) (hl : b.length ≤ 16777215) : ToPurposesD b = if PurposesD ((insL b).map fun x => lastL x.2) = (b, 0) then ((insL b).map fun x => lastL x.2, 0) else ([], 150) := by
  split
  . rename_i c; exact purposes_back hl c
  . rename_i c
    by_cases h : (ToPurposesD b).2 = 0
    . have h1 := purposes_once (l := (ToPurposesD b).1) hb (Prod.ext rfl h)
      rw [h1.2] at h1
      exact absurd h1.1 c
    . exact purposes_bad h
end Go.Pl
end
section
namespace Go.Pl
open Go.Vc
set_option linter.unusedVariables false
set_option linter.unusedSimpArgs false
theorem encO_len (l : List Int) : (encO l).length ≤ 5 + 5 * l.length := by
  have := encP_len l l.length
  rwa [encP_all (Nat.le_refl _)] at this
end Go.Pl
end
section
namespace Go.Pl
open Go.Vc
set_option linter.unusedVariables false
set_option linter.unusedSimpArgs false
theorem contD_len (b : List Int) (t : Int) : (contD b t).1.length ≤ b.length := by
  unfold contD
  split
  . exact oneD_len b
  . exact Nat.zero_le _
end Go.Pl
end
