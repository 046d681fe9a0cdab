/- Texts of a verified walk, led together: NumB, ExtR, ExtN, ExtX, ExtB. -/
import Derived.Test.YtiofbnlbfmbodaaGreatDoorZV17
import Derived.Test.YtiofbnlbfmbodaaGreatDoorZV18
import Derived.Test.YtiofbnlbfmbodaaGreatDoorZV14
import Derived.Test.YtiofbnlbfmbodaaGreatDoorZV11
import Derived.Test.YtiofbnlbfmbodaaGreatDoorZV16
set_option linter.unusedVariables false
set_option linter.unusedSimpArgs false
section
namespace Go.Pl
open Go.Vc
set_option linter.unusedVariables false
set_option linter.unusedSimpArgs false
end Go.Pl
end
section
namespace Go.Pl
open Go.Vc
set_option linter.unusedVariables false
set_option linter.unusedSimpArgs false
def contD (b : List Int) (t : Int) : List Int × Bool := if (oneD b).2 = 0 ∧ (oneD b).1.1 = t then ((oneD b).1.2, true) else ([], false)
theorem tag_ext : isTagD 48 = true ∧ isTagD 2 = true ∧ isTagD 3 = true ∧ isTagD 4 = true ∧ isTagD 10 = true ∧ isTagD 128 = true ∧ isTagD 1 = true := by decide
end Go.Pl
end
section
namespace Go.Pl
open Go.Vc
set_option linter.unusedVariables false
set_option linter.unusedSimpArgs false
abbrev GenT : Type := Int × List Int
abbrev gdft : GenT := ((0 : Int), ([] : List Int))
theorem ins_put {t : Int} {l : List EltT} (ht : isTagD t = true) (hl : ∀ x ∈ l, isTagD x.1 = true ∧ x.2.length ≤ 16777215) (hs : (l.flatMap putB).length ≤ 16777215) : insD (putB (t, l.flatMap putB)) t = (l, true) := by
  rw [insD, one_put (x := (t, l.flatMap putB)) ht hs, if_neg (by simp), all_flat hl]; simp
theorem one_bys {b : List Int} (hb : Bys b) (h : (oneD b).2 = 0) : Bys (oneD b).1.2 := by
  have e := (one_back hb h).2.2
  intro x hx
  refine hb x ?_
  rw [e, putB]
  exact List.mem_cons_of_mem _ (List.mem_append_right _ hx)
theorem ins_of {b : List Int} {t : Int} (hb : Bys b) (h : (insD b t).2 = true) : putB (t, (insD b t).1.flatMap putB) = b ∧ (∀ x ∈ (insD b t).1, isTagD x.1 = true ∧ x.2.length ≤ 16777215) ∧ ∀ x ∈ (insD b t).1, Bys x.2 := by
  unfold insD at h ⊢
  split at h
  . cases h
  . rename_i c
    rw [if_neg c]
    have c1 : (oneD b).2 = 0 := by
      by_cases e : (oneD b).2 = 0
      . exact e
      . exact absurd (.inl e) c
    have c2 : (oneD b).1.1 = t := by
      by_cases e : (oneD b).1.1 = t
      . exact e
      . exact absurd (.inr e) c
    have hB := one_bys hb c1
    have hf := flat_all hB (of_decide_eq_true h)
    have he := (one_back hb c1).2.2
    refine ⟨?_, hf.2, fun x hx y hy => hB y ?_⟩
    . simp only
      rw [← hf.1, ← c2]
      exact he.symm
    . rw [hf.1]
      refine List.mem_flatMap.2 ⟨x, hx, ?_⟩
      rw [putB]
      exact List.mem_cons_of_mem _ (List.mem_append_right _ hy)
theorem flat_mem_len {α : Type} (f : α → List Int) : ∀ {l : List α} {x : α}, x ∈ l → (f x).length ≤ (l.flatMap f).length
  | a :: l, x, h => by
    rw [List.flatMap_cons, List.length_append]
    rcases List.mem_cons.1 h with rfl | h
    . omega
    . have := flat_mem_len f h; omega
theorem put_cont (x : EltT) : x.2.length ≤ (putB x).length := by rw [put_len]; omega
theorem flat_map_put {α : Type} (f : α → EltT) (l : List α) : l.flatMap (fun a => putB (f a)) = (l.map f).flatMap putB := by
  induction l with
  | nil => rfl
  | cons a l ih => simp only [List.flatMap_cons, List.map_cons, ih]
theorem ins_row {α : Type} {f : α → EltT} {t : Int} {l : List α} {b : List Int} (hb : b.length ≤ 16777215) (ht : isTagD t = true) (hf : ∀ a ∈ l, isTagD (f a).1 = true) (e : b = putB (t, l.flatMap fun a => putB (f a))) : insD b t = (l.map f, true) := by
  have hl : (l.flatMap fun a => putB (f a)).length ≤ 16777215 := by
    have := put_cont (t, l.flatMap fun a => putB (f a))
    rw [← e] at this
    simp only at this
    omega
  rw [flat_map_put] at e hl
  rw [e]
  refine ins_put ht (fun x hx => ?_) hl
  obtain ⟨a, ha, rfl⟩ := List.mem_map.1 hx
  refine ⟨hf a ha, ?_⟩
  have h1 := flat_mem_len putB hx
  have h2 := put_cont (f a)
  omega
theorem ins_cont {b : List Int} {t : Int} (h : (contD b t).2 = true) : insD b t = ((allD (contD b t).1).1, decide ((allD (contD b t).1).2.2 = 0)) := by
  unfold contD at h ⊢
  split at h
  . rename_i c
    rw [if_pos c, insD, if_neg]
    rintro (q | q)
    . exact q c.1
    . exact q c.2
  . cases h
theorem ins_none {b : List Int} {t : Int} (h : (contD b t).2 = false) : insD b t = ([], false) := by
  unfold contD at h
  split at h
  . cases h
  . rename_i c
    rw [insD, if_pos]
    by_cases e : (oneD b).2 = 0
    . exact .inr fun e2 => c ⟨e, e2⟩
    . exact .inl e
abbrev GK : Kd := .pair (.int .i64) .str
def lenG (l : List GenT) : Nat := (l.flatMap fun g => g.2).length
def lenEs (l : List EltT) : Nat := (l.flatMap fun x => x.2).length
def tagG (k : Int) : Int := if k = 4 then 164 else 128 + k
def elG (g : GenT) : EltT := (tagG g.1, g.2)
def genB (g : GenT) : List Int := putB (elG g)
def genE (x : EltT) : GenT := (x.1 % 32, x.2)
def okE (x : EltT) : Bool := decide (x.1 = tagG (x.1 % 32))
def okG (x : EltT) : Bool := okE x && mayG (x.1 % 32) x.2
def NamesD (l : List GenT) : List Int × Int := if l = [] ∨ 16 < l.length ∨ (l.all fun g => mayG g.1 g.2) = false then ([], 150) else (putB (48, l.flatMap genB), 0)
def ToNamesD (b : List Int) : List GenT × Int :=
  if (insD b 48).2 = true ∧ (insD b 48).1.all okG = true ∧ (insD b 48).1 ≠ [] ∧ (insD b 48).1.length ≤ 16 then ((insD b 48).1.map genE, 0) else ([], 150)
theorem tagG_kind {k : Int} (h : kindG k) : isTagD (tagG k) = true ∧ tagG k % 32 = k := by
  rcases h with rfl | rfl | rfl | rfl <;> decide
theorem gen_el {g : GenT} (h : kindG g.1) : genE (elG g) = g ∧ okE (elG g) = true := by
  obtain ⟨k, t⟩ := g
  have h2 := (tagG_kind h).2
  refine ⟨?_, ?_⟩
  . show (tagG k % 32, t) = (k, t)
    rw [h2]
  . show decide (tagG k = tagG (tagG k % 32)) = true
    rw [h2]; exact decide_eq_true rfl
theorem okG_el {g : GenT} (h : mayG g.1 g.2 = true) : okG (elG g) = true := by
  have h1 := gen_el (g := g) (may_kind' h)
  unfold okG
  rw [h1.2, Bool.true_and]
  have : (genE (elG g)) = g := h1.1
  have h2 : (elG g).1 % 32 = g.1 := congrArg Prod.fst this
  rw [h2]
  exact h
theorem names_back {l : List GenT} {b : List Int} (hl : b.length ≤ 16777215) (h : NamesD l = (b, 0)) : ToNamesD b = (l, 0) := by
  unfold NamesD at h
  split at h
  . cases h
  . rename_i c
    obtain ⟨e, _⟩ := Prod.mk.inj h
    have hm : ∀ g ∈ l, mayG g.1 g.2 = true := by
      have : (l.all fun g => mayG g.1 g.2) = true := by
        cases hh : (l.all fun g => mayG g.1 g.2)
        . exact absurd (.inr (.inr hh)) c
        . rfl
      exact fun g hg => List.all_eq_true.1 this g hg
    have hne : l ≠ [] := fun e => c (.inl e)
    have h16 : l.length ≤ 16 := by
      by_cases q : 16 < l.length
      . exact absurd (.inr (.inl q)) c
      . omega
    have hi := ins_row (f := elG) (l := l) hl tag_ext.1 (fun g hg => (tagG_kind (may_kind' (hm g hg))).1) e.symm
    rw [ToNamesD, hi, if_pos]
    . have : (l.map elG).map genE = l := by
        rw [List.map_map]
        conv => rhs; rw [← List.map_id l]
        exact List.map_congr_left fun g hg => (gen_el (may_kind' (hm g hg))).1
      rw [this]
    . refine ⟨rfl, List.all_eq_true.2 fun x hx => ?_, by simpa using hne, by simpa using h16⟩
      obtain ⟨g, hg, rfl⟩ := List.mem_map.1 hx
      exact okG_el (hm g hg)
def unlikeK (l : List Int) (lo hi : Int) : Bool := (l.all fun n => decide (lo ≤ n) && decide (n ≤ hi)) && decide l.Nodup
def lastO (b ahead : List Int) : Int × Bool := if (DecD b).2 = 0 ∧ (DecD b).1.length = ahead.length + 1 ∧ (DecD b).1.take ahead.length = ahead then ((DecD b).1.getD ahead.length 0, true) else (0, false)
def lastL (b : List Int) : Int := if (DecD b).1 = [] then -1 else (DecD b).1.getD ((DecD b).1.length - 1) 0
theorem last_enc {a : List Int} {n : Int} (h : mayO (a ++ [n]) = true) : lastO (encO (a ++ [n])) a = (n, true) ∧ lastL (encO (a ++ [n])) = n := by
  have hd := dec_enc h
  have hg : (a ++ [n]).getD a.length 0 = n := by simp [List.getD_eq_getElem?_getD]
  refine ⟨?_, ?_⟩
  . rw [lastO, hd, if_pos ⟨rfl, by simp, by simp⟩]
    simp only [hg]
  . rw [lastL, hd, if_neg (by simp)]
    simp only [List.length_append, List.length_cons, List.length_nil]
    exact hg
theorem unlike_in {l : List Int} {lo hi : Int} (h : unlikeK l lo hi = true) : ∀ n ∈ l, lo ≤ n ∧ n ≤ hi := by
  intro n hn
  have := List.all_eq_true.1 (Bool.and_eq_true_iff.1 h).1 n hn
  simpa using this
end Go.Pl
end
section
namespace Go.Pl
open Go.Vc
set_option linter.unusedVariables false
set_option linter.unusedSimpArgs false
def takeE (l : List EltT) (t : Int) : List Int × Bool × List EltT := if l = [] ∨ (l.getD 0 edft).1 ≠ t then ([], false, l) else ((l.getD 0 edft).2, true, l.drop 1)
def yesE (l : List EltT) : Bool × List EltT × Bool := if (takeE l 1).2.1 = false then (false, l, true) else if ToBoolD (takeE l 1).1 = (true, 0) then (true, (takeE l 1).2.2, true) else (false, [], false)
abbrev ExtT : Type := Int × Bool × List Int
abbrev xdft : ExtT := ((0 : Int), false, ([] : List Int))
abbrev EXT : Kd := .pair (.int .i64) (.pair .bool (.sl (.int .u8)))
def extA : List Int := [2, 5, 29]
def partsX (l : List EltT) : ExtT × Bool :=
  if (takeE l 6).2.1 = true ∧ (yesE (takeE l 6).2.2).2.2 = true ∧ (takeE (yesE (takeE l 6).2.2).2.1 4).2.1 = true ∧ (takeE (yesE (takeE l 6).2.2).2.1 4).2.2 = [] ∧ (lastO (takeE l 6).1 extA).2 = true then
    (((lastO (takeE l 6).1 extA).1, (yesE (takeE l 6).2.2).1, (takeE (yesE (takeE l 6).2.2).2.1 4).1), true) else (xdft, false)
def extP (x : ExtT) : List EltT := (6, encO (extA ++ [x.1])) :: ((if x.2.1 = true then [(1, [255])] else []) ++ [(4, x.2.2)])
def elX (x : ExtT) : EltT := (48, (extP x).flatMap putB)
def extB (x : ExtT) : List Int := putB (elX x)
def rdX (e : EltT) : ExtT × Bool := if e.1 = 48 ∧ (allD e.2).2.2 = 0 ∧ (partsX (allD e.2).1).2 = true then ((partsX (allD e.2).1).1, true) else (xdft, false)
def mayX (l : List ExtT) : Bool := decide (l ≠ []) && (decide (l.length ≤ 16) && ((l.all fun x => decide (x.2.2.length ≤ 65536)) && unlikeK (l.map fun x => x.1) 0 127))
def ExtsD (l : List ExtT) : List Int × Int := if mayX l = false then ([], 150) else (putB (48, l.flatMap extB), 0)
def ToExtsD (b : List Int) : List ExtT × Int :=
  if (insD b 48).2 = true ∧ ((insD b 48).1.all fun e => (rdX e).2) = true ∧ mayX ((insD b 48).1.map fun e => (rdX e).1) = true then ((insD b 48).1.map fun e => (rdX e).1, 0) else ([], 150)
theorem take_hit (t : Int) (c : List Int) (r : List EltT) : takeE ((t, c) :: r) t = (c, true, r) := by
  rw [takeE, if_neg (by simp)]; rfl
theorem take_miss {t u : Int} (c : List Int) (r : List EltT) (h : u ≠ t) : takeE ((u, c) :: r) t = ([], false, (u, c) :: r) := by
  rw [takeE, if_pos (.inr h)]
theorem take_true {l : List EltT} {t : Int} (h : (takeE l t).2.1 = true) : l = (t, (takeE l t).1) :: (takeE l t).2.2 := by
  unfold takeE at h ⊢
  split at h
  . cases h
  . rename_i c
    rw [if_neg c]
    match l, c with
    | [], c => exact absurd (.inl rfl) c
    | (u, d) :: r, c =>
      have : u = t := by
        by_cases e : u = t
        . exact e
        . exact absurd (.inr e) c
      subst this
      rfl
theorem take_false {l : List EltT} {t : Int} (h : (takeE l t).2.1 = false) : (takeE l t).2.2 = l := by
  unfold takeE at h ⊢
  split at h
  . rename_i c; rw [if_pos c]
  . cases h
theorem bool_true : ToBoolD [255] = (true, 0) := by decide
theorem parts_ext {x : ExtT} (h0 : 0 ≤ x.1) (h1 : x.1 ≤ 127) : partsX (extP x) = (x, true) := by
  obtain ⟨n, c, v⟩ := x
  have hm : mayO (extA ++ [n]) = true := by
    simp only at h0 h1
    simp [mayO, inArc, extA]
    omega
  have hl := (last_enc (a := extA) hm).1
  have ha : takeE (extP (n, c, v)) 6 = (encO (extA ++ [n]), true, (if c = true then [(1, [255])] else []) ++ [(4, v)]) := take_hit _ _ _
  have hy : yesE ((if c = true then [((1 : Int), [(255 : Int)])] else []) ++ [((4 : Int), v)]) = (c, [(4, v)], true) := by
    cases c with
    | false =>
      have : takeE [((4 : Int), v)] 1 = ([], false, [(4, v)]) := take_miss _ _ (by decide)
      show yesE [((4 : Int), v)] = _
      rw [yesE, this, if_pos rfl]
    | true =>
      have : takeE [((1 : Int), [(255 : Int)]), ((4 : Int), v)] 1 = ([255], true, [(4, v)]) := take_hit _ _ _
      show yesE [((1 : Int), [(255 : Int)]), ((4 : Int), v)] = _
      rw [yesE, this, if_neg (by simp), if_pos bool_true]
  rw [partsX, ha]
  simp only
  rw [hy]
  simp only
  rw [take_hit, hl]
  rfl
theorem encO_len (l : List Int) : (encO l).length ≤ 5 + 5 * l.length := by
  have := encP_len l l.length
  rwa [encP_all (Nat.le_refl _)] at this
theorem extP_ok {x : ExtT} (h : x.2.2.length ≤ 65536) : ∀ e ∈ extP x, isTagD e.1 = true ∧ e.2.length ≤ 16777215 := by
  have h6 := encO_len (extA ++ [x.1])
  have h7 : (extA ++ [x.1]).length = 4 := rfl
  intro e he
  unfold extP at he
  rcases List.mem_cons.1 he with rfl | he
  . exact ⟨show isTagD 6 = true from by decide, by simp only; omega⟩
  . rcases List.mem_append.1 he with he | he
    . split at he
      . simp only [List.mem_cons, List.not_mem_nil, or_false] at he
        subst he
        exact ⟨by decide, by decide⟩
      . cases he
    . simp only [List.mem_cons, List.not_mem_nil, or_false] at he
      subst he
      exact ⟨show isTagD 4 = true from by decide, by simp only; omega⟩
theorem rd_el {x : ExtT} (h0 : 0 ≤ x.1) (h1 : x.1 ≤ 127) (h : x.2.2.length ≤ 65536) : rdX (elX x) = (x, true) := by
  have := all_flat (extP_ok h)
  unfold rdX
  have e : (elX x).2 = (extP x).flatMap putB := rfl
  rw [e, this, parts_ext h0 h1]
  exact if_pos ⟨rfl, rfl, rfl⟩
theorem mayX_args {l : List ExtT} (h : mayX l = true) : l ≠ [] ∧ l.length ≤ 16 ∧ (∀ x ∈ l, x.2.2.length ≤ 65536 ∧ 0 ≤ x.1 ∧ x.1 ≤ 127) := by
  simp only [mayX, Bool.and_eq_true, decide_eq_true_eq] at h
  obtain ⟨h1, h2, h3, h4⟩ := h
  refine ⟨h1, h2, fun x hx => ⟨by simpa using List.all_eq_true.1 h3 x hx, ?_⟩⟩
  exact unlike_in h4 x.1 (List.mem_map.2 ⟨x, hx, rfl⟩)
theorem exts_back {l : List ExtT} {b : List Int} (hl : b.length ≤ 16777215) (h : ExtsD l = (b, 0)) : ToExtsD b = (l, 0) := by
  unfold ExtsD at h
  split at h
  . cases h
  . rename_i c
    have hm : mayX l = true := by cases hh : mayX l <;> simp_all
    obtain ⟨e, _⟩ := Prod.mk.inj h
    obtain ⟨h1, h2, h3⟩ := mayX_args hm
    have hi := ins_row (f := elX) (l := l) hl tag_ext.1 (fun x hx => show isTagD 48 = true from by decide) e.symm
    have hr : ∀ x ∈ l, rdX (elX x) = (x, true) := fun x hx => rd_el (h3 x hx).2.1 (h3 x hx).2.2 (h3 x hx).1
    have hmap : (l.map elX).map (fun e => (rdX e).1) = l := by
      rw [List.map_map]
      conv => rhs; rw [← List.map_id l]
      exact List.map_congr_left fun x hx => by
        show (rdX (elX x)).1 = x
        rw [hr x hx]
    have hok : ((l.map elX).all fun e => (rdX e).2) = true := List.all_eq_true.2 fun y hy => by
      obtain ⟨x, hx, rfl⟩ := List.mem_map.1 hy
      rw [hr x hx]
    rw [ToExtsD, hi]
    simp only [hmap]
    exact if_pos ⟨by first | rfl | trivial, hok, hm⟩
def mayTr (t : GenT) : Bool := mayT t.1 t.2
def elT (t : GenT) : EltT := (48, genB t)
def subs (tag : Int) (l : List GenT) : List EltT := if l = [] then [] else [(tag, l.flatMap fun t => putB (elT t))]
def badTr (t : List GenT × List GenT) : Bool := decide (16 < t.1.length) || (decide (16 < t.2.length) || (!(t.1.all mayTr) || (!(t.2.all mayTr) || (decide (t.1 = []) && decide (t.2 = [])))))
def treesB (t : List GenT × List GenT) : List Int := putB (48, (subs 160 t.1 ++ subs 161 t.2).flatMap putB)
def TreesD (t : List GenT × List GenT) : List Int × Int := if badTr t = true then ([], 150) else (treesB t, 0)
def rdT (e : EltT) : GenT × Bool := if e.1 = 48 ∧ (oneD e.2).2 = 0 ∧ okE (oneD e.2).1 = true ∧ mayTr (genE (oneD e.2).1) = true then (genE (oneD e.2).1, true) else (gdft, false)
def rdS (l : List EltT) (tag : Int) : List GenT × List EltT × Bool :=
  if (takeE l tag).2.1 = false then ([], l, true)
  else if (allD (takeE l tag).1).2.2 = 0 ∧ (allD (takeE l tag).1).1 ≠ [] ∧ (allD (takeE l tag).1).1.length ≤ 16 ∧ ((allD (takeE l tag).1).1.all fun e => (rdT e).2) = true then
    ((allD (takeE l tag).1).1.map fun e => (rdT e).1, (takeE l tag).2.2, true) else ([], [], false)
def rdTs (l : List EltT) : (List GenT × List GenT) × Bool :=
  if (rdS l 160).2.2 = true ∧ (rdS (rdS l 160).2.1 161).2.2 = true ∧ (rdS (rdS l 160).2.1 161).2.1 = [] ∧ ¬ ((rdS l 160).1 = [] ∧ (rdS (rdS l 160).2.1 161).1 = []) then (((rdS l 160).1, (rdS (rdS l 160).2.1 161).1), true) else (([], []), false)
def ToTreesD (b : List Int) : (List GenT × List GenT) × Int := if (insD b 48).2 = true ∧ (rdTs (insD b 48).1).2 = true then ((rdTs (insD b 48).1).1, 0) else (([], []), 150)
theorem mayTr_kind {t : GenT} (h : mayTr t = true) : kindG t.1 := by
  unfold mayTr mayT at h
  by_cases h1 : t.1 = 1
  . exact .inl h1
  by_cases h2 : t.1 = 2
  . exact .inr (.inl h2)
  by_cases h4 : t.1 = 4
  . exact .inr (.inr (.inl h4))
  by_cases h7 : t.1 = 7
  . exact .inr (.inr (.inr h7))
  rw [if_neg h1, if_neg h2, if_neg h4, if_neg h7] at h
  cases h
def okTr (l : List GenT) : Bool := decide (l.length ≤ 16) && l.all mayTr
theorem rd_elT {t : GenT} (h : mayTr t = true) (hl : t.2.length ≤ 16777215) : rdT (elT t) = (t, true) := by
  have hk := mayTr_kind h
  have h1 := gen_el hk
  have ho : oneD (genB t) = (elG t, 0) := one_put (x := elG t) (tagG_kind hk).1 hl
  unfold rdT
  have e : (elT t).2 = genB t := rfl
  rw [e, ho]
  simp only
  rw [h1.1, if_pos ⟨rfl, by first | rfl | trivial, h1.2, h⟩]
theorem badTr_no {t : List GenT × List GenT} (h : ¬ badTr t = true) : t.1.length ≤ 16 ∧ t.2.length ≤ 16 ∧ (∀ x ∈ t.1, mayTr x = true) ∧ (∀ x ∈ t.2, mayTr x = true) ∧ ¬ (t.1 = [] ∧ t.2 = []) := by
  have h : badTr t = false := by cases hh : badTr t <;> simp_all
  simp only [badTr, Bool.or_eq_false_iff, decide_eq_false_iff_not, Bool.not_eq_false', Bool.and_eq_false_iff] at h
  obtain ⟨h1, h2, h3, h4, h5⟩ := h
  refine ⟨by omega, by omega, fun x hx => List.all_eq_true.1 h3 x hx, fun x hx => List.all_eq_true.1 h4 x hx, ?_⟩
  rintro ⟨e1, e2⟩
  rcases h5 with h5 | h5
  . exact h5 e1
  . exact h5 e2
theorem no_badTr {t : List GenT × List GenT} (h1 : t.1.length ≤ 16) (h2 : t.2.length ≤ 16) (h3 : ∀ x ∈ t.1, mayTr x = true) (h4 : ∀ x ∈ t.2, mayTr x = true) (h5 : ¬ (t.1 = [] ∧ t.2 = [])) : badTr t = false := by
  simp only [badTr, Bool.or_eq_false_iff, decide_eq_false_iff_not, Bool.not_eq_false', Bool.and_eq_false_iff]
  refine ⟨by omega, by omega, List.all_eq_true.2 h3, List.all_eq_true.2 h4, ?_⟩
  by_cases e : t.1 = []
  . exact .inr fun e2 => h5 ⟨e, e2⟩
  . exact .inl e
theorem rdS_subs {tag : Int} {l : List GenT} {r : List EltT} (hm : ∀ x ∈ l, mayTr x = true) (h16 : l.length ≤ 16) (hl : (l.flatMap fun t => putB (elT t)).length ≤ 16777215) (hr : (takeE r tag).2.1 = false) : rdS (subs tag l ++ r) tag = (l, r, true) := by
  by_cases e : l = []
  . subst e
    show rdS r tag = _
    rw [rdS, if_pos hr]
  . have hs : subs tag l ++ r = (tag, l.flatMap fun t => putB (elT t)) :: r := by rw [subs, if_neg e]; rfl
    have hlen : ∀ x ∈ l, x.2.length ≤ 16777215 := fun x hx => by
      have h1 := flat_mem_len (fun t => putB (elT t)) hx
      have h2 := put_cont (elT x)
      have h3 := put_cont (elG x)
      have h4 : (elT x).2 = putB (elG x) := rfl
      have h5 : (elG x).2 = x.2 := rfl
      rw [h4] at h2
      rw [h5] at h3
      omega
    have ha : allD (l.flatMap fun t => putB (elT t)) = (l.map elT, ((l.flatMap fun t => putB (elT t)).length : Int), 0) := by
      rw [flat_map_put] at hl ⊢
      refine all_flat fun x hx => ?_
      obtain ⟨t, ht, rfl⟩ := List.mem_map.1 hx
      refine ⟨show isTagD 48 = true from by decide, ?_⟩
      have h1 := flat_mem_len putB hx
      have h2 := put_cont (elT t)
      omega
    have hrd : ∀ x ∈ l, rdT (elT x) = (x, true) := fun x hx => rd_elT (hm x hx) (hlen x hx)
    rw [hs, rdS, take_hit, if_neg (by simp)]
    simp only [ha]
    have hmap : (l.map elT).map (fun e => (rdT e).1) = l := by
      rw [List.map_map]
      conv => rhs; rw [← List.map_id l]
      exact List.map_congr_left fun x hx => by
        show (rdT (elT x)).1 = x
        rw [hrd x hx]
    have hok : ((l.map elT).all fun e => (rdT e).2) = true := List.all_eq_true.2 fun y hy => by
      obtain ⟨x, hx, rfl⟩ := List.mem_map.1 hy
      rw [hrd x hx]
    rw [hmap]
    exact if_pos ⟨by first | rfl | trivial, by simpa using e, by simpa using h16, hok⟩
theorem subs_tag {tag : Int} {l : List GenT} : ∀ e ∈ subs tag l, e.1 = tag := by
  intro e he
  unfold subs at he
  split at he
  . cases he
  . simp only [List.mem_cons, List.not_mem_nil, or_false] at he
    rw [he]
theorem take_subs {t u : Int} (h : u ≠ t) (l : List GenT) : (takeE (subs u l) t).2.1 = false := by
  unfold subs
  split
  . rfl
  . rw [take_miss _ _ h]
theorem trees_back {t : List GenT × List GenT} {b : List Int} (hl : b.length ≤ 16777215) (h : TreesD t = (b, 0)) : ToTreesD b = (t, 0) := by
  unfold TreesD at h
  split at h
  . cases h
  . rename_i c
    obtain ⟨e, _⟩ := Prod.mk.inj h
    obtain ⟨p, x⟩ := t
    obtain ⟨h1, h2, h3, h4, h5⟩ := badTr_no c
    simp only at h1 h2 h3 h4 h5
    have hin : ((subs 160 p ++ subs 161 x).flatMap putB).length ≤ 16777215 := by
      have := put_cont (48, (subs 160 p ++ subs 161 x).flatMap putB)
      have e2 : putB (48, (subs 160 p ++ subs 161 x).flatMap putB) = b := e
      rw [e2] at this
      simp only at this
      omega
    have hsub : ∀ (tag : Int) (l : List GenT), (tag = 160 ∧ l = p ∨ tag = 161 ∧ l = x) → (l.flatMap fun t => putB (elT t)).length ≤ 16777215 := by
      intro tag l hc
      by_cases el : l = []
      . subst el; simp
      . have hmem : (tag, l.flatMap fun t => putB (elT t)) ∈ subs 160 p ++ subs 161 x := by
          rcases hc with ⟨rfl, rfl⟩ | ⟨rfl, rfl⟩
          . exact List.mem_append_left _ (by rw [subs, if_neg el]; exact List.mem_cons_self)
          . exact List.mem_append_right _ (by rw [subs, if_neg el]; exact List.mem_cons_self)
        have h1 := flat_mem_len putB hmem
        have h2 := put_cont (tag, l.flatMap fun t => putB (elT t))
        simp only at h2
        omega
    have hi : insD b 48 = (subs 160 p ++ subs 161 x, true) := by
      rw [← e]
      refine ins_put tag_ext.1 (fun y hy => ?_) hin
      have h1 := flat_mem_len putB hy
      have h2 := put_cont y
      have hin2 : ((subs 160 (p, x).1 ++ subs 161 (p, x).2).flatMap putB).length ≤ 16777215 := hin
      refine ⟨?_, by omega⟩
      rcases List.mem_append.1 hy with hy | hy
      . rw [subs_tag y hy]; decide
      . rw [subs_tag y hy]; decide
    have hp := rdS_subs (tag := 160) (r := subs 161 x) h3 h1 (hsub 160 p (.inl ⟨rfl, rfl⟩)) (take_subs (by decide) x)
    have hx := rdS_subs (tag := 161) (r := []) h4 h2 (hsub 161 x (.inr ⟨rfl, rfl⟩)) rfl
    rw [List.append_nil] at hx
    have hr : rdTs (subs 160 p ++ subs 161 x) = ((p, x), true) := by
      rw [rdTs, hp]
      simp only
      rw [hx]
      exact if_pos ⟨by first | rfl | trivial, by first | rfl | trivial, by first | rfl | trivial, h5⟩
    rw [ToTreesD, hi]
    simp only
    rw [hr]
    exact if_pos ⟨by first | rfl | trivial, by first | rfl | trivial⟩
end Go.Pl
end
section
namespace Go.Pl
open Go.Vc
set_option linter.unusedVariables false
set_option linter.unusedSimpArgs false
theorem contD_len (b : List Int) (t : Int) : (contD b t).1.length ≤ b.length := by
  unfold contD
  split
  . exact oneD_len b
  . exact Nat.zero_le _
end Go.Pl
end
