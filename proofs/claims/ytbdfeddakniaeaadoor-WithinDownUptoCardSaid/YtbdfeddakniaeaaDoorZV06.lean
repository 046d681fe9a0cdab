/- Texts of a verified walk, led together: Plain, Strs, Text. -/
import Derived.Test.YtbdfeddakniaeaaDoorZV05
import Derived.Lib.Bytealg
import Derived.Lib.IndexMore
import Derived.Lib.DecodeNEq
set_option linter.unusedVariables false
set_option linter.unusedSimpArgs false
section
namespace Go.Pl
open Go.Vc
open Go.RowKit
abbrev U8 : Kd := .int .u8
abbrev I64 : Kd := .int .i64
theorem wrapK (i : Int) (h0 : -9000000000000000000 ≤ i) (h1 : i ≤ 9000000000000000000) : IntKind.wrap .i64 i = i := by rw [IntKind.wrap_i64]; omega
theorem wrapM (i : Int) (h0 : -9223372036854775808 ≤ i) (h1 : i ≤ 9223372036854775807) : IntKind.wrap .i64 i = i := by rw [IntKind.wrap_i64]; omega
theorem wrap8 (i : Int) (h0 : 0 ≤ i) (h1 : i ≤ 255) : IntKind.wrap .u8 i = i := by
  simp [IntKind.wrap, IntKind.signed, IntKind.bits]
  omega
def Bys (l : List Int) : Prop := ∀ b ∈ l, 0 ≤ b ∧ b ≤ 255
theorem str_bys {l : List Int} (h : Kd.wf Kd.str l) : Bys l := fun b hb => h.2 b hb
theorem getD_drop (l : List Int) (i j : Nat) : (l.drop i).getD j 0 = l.getD (i + j) 0 := by
  rw [List.getD_eq_getElem?_getD, List.getElem?_drop, ← List.getD_eq_getElem?_getD]
theorem getD_append_right (l m : List Int) (j : Nat) : (l ++ m).getD (l.length + j) 0 = m.getD j 0 := by
  rw [List.getD_eq_getElem?_getD, List.getElem?_append_right (by omega), Nat.add_sub_cancel_left, ← List.getD_eq_getElem?_getD]
theorem drop_consA {α : Type} (d : α) (l : List α) (n : Nat) (h : n < l.length) : l.drop n = l.getD n d :: l.drop (n + 1) := by
  rw [List.drop_eq_getElem_cons h, List.getD_eq_getElem?_getD, List.getElem?_eq_getElem h]
  rfl
theorem take_snocA {α : Type} (d : α) (l : List α) (n : Nat) (h : n < l.length) : l.take (n + 1) = l.take n ++ [l.getD n d] := by
  rw [List.take_add_one, List.getD_eq_getElem?_getD, List.getElem?_eq_getElem h]
  rfl
theorem drop_cons (l : List Int) (n : Nat) (h : n < l.length) : l.drop n = l.getD n 0 :: l.drop (n + 1) := drop_consA 0 l n h
theorem take_snoc (l : List Int) (n : Nat) (h : n < l.length) : l.take (n + 1) = l.take n ++ [l.getD n 0] := take_snocA 0 l n h
theorem all_getA {α : Type} (d : α) (p : α → Bool) (l : List α) (h : ∀ j, j < l.length → p (l.getD j d) = true) : l.all p = true := by
  rw [List.all_eq_true]
  intro x hx
  obtain ⟨j, hj, e⟩ := List.getElem_of_mem hx
  have := h j hj
  rw [List.getD_eq_getElem?_getD, List.getElem?_eq_getElem hj] at this
  rw [← e]; exact this
theorem all_notA {α : Type} (d : α) (p : α → Bool) (l : List α) (i : Nat) (hi : i < l.length) (h : p (l.getD i d) = false) : l.all p = false := by
  rw [List.all_eq_false]
  refine ⟨l[i], List.getElem_mem hi, ?_⟩
  rw [List.getD_eq_getElem?_getD, List.getElem?_eq_getElem hi] at h
  simpa using h
theorem all_get (p : Int → Bool) (l : List Int) (h : ∀ j, j < l.length → p (l.getD j 0) = true) : l.all p = true := all_getA 0 p l h
theorem all_not (p : Int → Bool) (l : List Int) (i : Nat) (hi : i < l.length) (h : p (l.getD i 0) = false) : l.all p = false := all_notA 0 p l i hi h
theorem bs_nil : bs { data := #[] } = ([] : List Int) := rfl
theorem all_bool {E : Bool} {Q : Bool × Unit → Prop} : (∀ y : Bool × Unit, Kd.wf Kd.bool y.1 → y.1 = E → Q y) ↔ Q (E, ()) :=
  ⟨fun h => h (E, ()) trivial rfl, fun h y _ e => by obtain ⟨b, _⟩ := y; cases e; exact h⟩
end Go.Pl
end
section
namespace Go.Pl
open Go.Vc
open Go.RowKit
def smallD (c : Int) : Int := if 65 ≤ c ∧ c ≤ 90 then c + 32 else c
def idxB : List Int → Int → Int
  | [], _ => -1
  | a :: l, c => if a = c then 0 else if idxB l c < 0 then -1 else idxB l c + 1
def idxS : List Int → List Int → Int
  | [], sub => if sub.isEmpty then 0 else -1
  | a :: l, sub => if sub.isPrefixOf (a :: l) then 0 else if idxS l sub < 0 then -1 else idxS l sub + 1
def cutD (d : Int) : List Int → List Int × List Int × Bool
  | [] => ([], [], false)
  | c :: l => if c = d then ([], l, true) else (c :: (cutD d l).1, (cutD d l).2.1, (cutD d l).2.2)
def hasP (p l : List Int) : Bool := decide (l.take p.length = p)
def splitA (d : Int) (cur : List Int) : List Int → List (List Int)
  | [] => [cur]
  | c :: l => if c = d then cur :: splitA d [] l else splitA d (cur ++ [c]) l
theorem idxB_ge : ∀ (l : List Int) (c : Int), -1 ≤ idxB l c ∧ idxB l c < l.length
  | [], _ => by simp [idxB]
  | a :: l, c => by
    have := idxB_ge l c
    rw [idxB, List.length_cons]
    split
    . omega
    . split <;> omega
theorem idxB_mem : ∀ (l : List Int) (c : Int), 0 ≤ idxB l c ↔ c ∈ l
  | [], _ => by simp [idxB]
  | a :: l, c => by
    have ih := idxB_mem l c
    have := idxB_ge l c
    rw [idxB]
    split
    . rename_i h; simp [h]
    . rename_i h
      have hc : c ∈ a :: l ↔ c ∈ l := by simp [List.mem_cons]; intro e; exact absurd e.symm h
      rw [hc, ← ih]
      split <;> omega
theorem idxS_one : ∀ (l : List Int) (c : Int), idxS l [c] = idxB l c
  | [], _ => rfl
  | a :: l, c => by
    have ih := idxS_one l c
    have h : [c].isPrefixOf (a :: l) = decide (a = c) := by
      have : (c == a) = decide (a = c) := by
        by_cases h : a = c
        . subst h; simp
        . rw [decide_eq_false h]; simpa using fun e => h e.symm
      simp [List.isPrefixOf, this]
    rw [idxS, idxB, ih, h]
    by_cases h : a = c <;> simp [h]
theorem idxS_ge : ∀ (l m : List Int), -1 ≤ idxS l m ∧ idxS l m ≤ l.length
  | [], m => by rw [idxS]; split <;> simp
  | a :: l, m => by
    have := idxS_ge l m
    rw [idxS, List.length_cons]
    split
    . omega
    . split <;> omega
theorem u8_inj {a b : Int} (ha : 0 ≤ a ∧ a ≤ 255) (hb : 0 ≤ b ∧ b ≤ 255) : a.toNat.toUInt8 = b.toNat.toUInt8 ↔ a = b := by
  constructor
  . intro h
    have := congrArg UInt8.toNat h
    simp at this
    omega
  . intro h; rw [h]
theorem u8s_prefix : ∀ (m l : List Int), Bys m → Bys l → (u8s m).isPrefixOf (u8s l) = m.isPrefixOf l
  | [], l, _, _ => by simp [u8s]
  | b :: m, [], _, _ => rfl
  | b :: m, a :: l, hm, hl => by
    have ih := u8s_prefix m l (fun x hx => hm x (List.mem_cons_of_mem _ hx)) (fun x hx => hl x (List.mem_cons_of_mem _ hx))
    have hb := hm b (by simp)
    have ha := hl a (by simp)
    simp only [u8s, List.map_cons, List.isPrefixOf] at ih ⊢
    rw [ih]
    congr 1
    by_cases h : b = a
    . subst h; simp
    . rw [beq_eq_false_iff_ne.2 h, beq_eq_false_iff_ne.2 (fun e => h ((u8_inj hb ha).1 e))]
theorem idxS_lib : ∀ (l m : List Int), Bys l → Bys m → Lib.index (u8s l) (u8s m) = idxS l m
  | [], m, _, _ => by
    cases m <;> rfl
  | a :: l, m, hl, hm => by
    have ih := idxS_lib l m (fun x hx => hl x (List.mem_cons_of_mem _ hx)) hm
    have hp := u8s_prefix m (a :: l) hm hl
    have hg := idxS_ge l m
    simp only [u8s, List.map_cons] at ih hp ⊢
    rw [Lib.index, idxS, hp, ih]
    by_cases h1 : m.isPrefixOf (a :: l) = true
    . rw [if_pos h1, if_pos h1]
    . rw [if_neg h1, if_neg h1]
      by_cases h2 : idxS l m = -1
      . rw [if_pos (by simpa using h2), if_pos (by omega)]
      . rw [if_neg (by simpa using h2), if_neg (by omega)]
theorem cutD_idx : ∀ (l : List Int) (d : Int), cutD d l = if 0 ≤ idxB l d then (l.take (idxB l d).toNat, l.drop ((idxB l d).toNat + 1), true) else (l, [], false)
  | [], _ => rfl
  | c :: l, d => by
    have ih := cutD_idx l d
    have hge := idxB_ge l d
    rw [cutD, idxB]
    by_cases h : c = d
    . rw [if_pos h, if_pos h]; rfl
    . rw [if_neg h, if_neg h, ih]
      by_cases h1 : idxB l d < 0
      . rw [if_pos h1, if_neg (show ¬ (0 : Int) ≤ -1 by omega), if_neg (show ¬ 0 ≤ idxB l d by omega)]
      . rw [if_neg h1, if_pos (show 0 ≤ idxB l d + 1 by omega), if_pos (show 0 ≤ idxB l d by omega), show (idxB l d + 1).toNat = (idxB l d).toNat + 1 by omega]
        simp
theorem cutD_len (l : List Int) (d : Int) : (cutD d l).1.length ≤ l.length ∧ (cutD d l).2.1.length ≤ l.length := by
  rw [cutD_idx]
  split
  . simp; omega
  . simp
theorem cutD_mem : ∀ (l : List Int) (d : Int), d ∉ (cutD d l).1
  | [], _ => by simp [cutD]
  | c :: l, d => by
    have := cutD_mem l d
    rw [cutD]
    split
    . simp
    . rename_i h
      simp only [List.mem_cons, not_or]
      exact ⟨fun e => h e.symm, this⟩
theorem cutD_join : ∀ (l : List Int) (d : Int), l = (cutD d l).1 ++ (if (cutD d l).2.2 then d :: (cutD d l).2.1 else [])
  | [], _ => rfl
  | c :: l, d => by
    have ih := cutD_join l d
    rw [cutD]
    split
    . rename_i h; simp [h]
    . simp only [List.cons_append]
      rw [← ih]
theorem split_app : ∀ (w cur r : List Int) (d : Int), d ∉ w → splitA d cur (w ++ r) = splitA d (cur ++ w) r
  | [], cur, r, _, _ => by simp
  | c :: w, cur, r, d, h => by
    simp only [List.mem_cons, not_or] at h
    rw [List.cons_append, splitA, if_neg (fun e => h.1 e.symm), split_app w _ r d h.2]
    simp
theorem split_cut (d : Int) (l : List Int) : splitA d [] l = (cutD d l).1 :: (if (cutD d l).2.2 then splitA d [] (cutD d l).2.1 else []) := by
  have hj := cutD_join l d
  have hm := cutD_mem l d
  generalize cutD d l = c at hj hm ⊢
  obtain ⟨a, b, f⟩ := c
  simp only at hj hm ⊢
  subst hj
  rw [split_app _ _ _ _ hm]
  cases f
  . simp [splitA]
  . simp [splitA]
def joinD (d : Int) : List (List Int) → List Int
  | [] => []
  | [w] => w
  | w :: v :: ws => w ++ d :: joinD d (v :: ws)
theorem split_ne (d : Int) : ∀ (l cur : List Int), splitA d cur l ≠ []
  | [], cur => by simp [splitA]
  | c :: l, cur => by
    rw [splitA]
    split
    . simp
    . exact split_ne d l _
theorem split_join (d : Int) : ∀ (l cur : List Int), joinD d (splitA d cur l) = cur ++ l
  | [], cur => by simp [splitA, joinD]
  | c :: l, cur => by
    rw [splitA]
    split
    . rename_i h
      have ih := split_join d l []
      cases hs : splitA d [] l with
      | nil => exact absurd hs (split_ne d l [])
      | cons v ws =>
        rw [hs] at ih
        rw [joinD, ih, h]
        simp
    . rw [split_join d l]; simp
theorem split_inj {d : Int} {l m : List Int} (h : splitA d [] l = splitA d [] m) : l = m := by
  have h1 := split_join d l []
  have h2 := split_join d m []
  rw [h, h2] at h1
  simpa using h1.symm
theorem hasP_iff {p l : List Int} : hasP p l = true ↔ ∃ r, l = p ++ r := by
  unfold hasP
  rw [decide_eq_true_eq]
  constructor
  . intro h
    exact ⟨l.drop p.length, by
      have := List.take_append_drop p.length l
      rw [h] at this
      exact this.symm⟩
  . rintro ⟨r, rfl⟩
    simp
end Go.Pl
end
section
namespace Go.Pl
open Go.Vc
set_option linter.unusedVariables false
set_option linter.unusedSimpArgs false
def accTab : List (Int × Int) := (List.range 16).map fun i => ((Lib.accLo i : Int), (Lib.accHi i : Int))
end Go.Pl
end
