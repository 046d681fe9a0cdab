/- Texts of a verified walk, led together: Plain, Strs, Text. -/
import Derived.Test.YtiofbnlbfmbodaaGreatDoorZV06
import Derived.Lib.Bytealg
import Derived.Lib.IndexMore
import Derived.Lib.DecodeNEq
set_option linter.unusedVariables false
set_option linter.unusedSimpArgs false
section
namespace Go.Pl
open Go.Vc
open Go.RowKit
abbrev U8 : Kd := .int .u8
abbrev I32 : Kd := .int .i32
abbrev I64 : Kd := .int .i64
abbrev BY : Kd := .sl U8
theorem wrapK (i : Int) (h0 : -9000000000000000000 ≤ i) (h1 : i ≤ 9000000000000000000) : IntKind.wrap .i64 i = i := by rw [IntKind.wrap_i64]; omega
theorem wrapM (i : Int) (h0 : -9223372036854775808 ≤ i) (h1 : i ≤ 9223372036854775807) : IntKind.wrap .i64 i = i := by rw [IntKind.wrap_i64]; omega
theorem wrap8 (i : Int) (h0 : 0 ≤ i) (h1 : i ≤ 255) : IntKind.wrap .u8 i = i := by
  simp [IntKind.wrap, IntKind.signed, IntKind.bits]
  omega
def Bys (l : List Int) : Prop := ∀ b ∈ l, 0 ≤ b ∧ b ≤ 255
theorem str_bys {l : List Int} (h : Kd.wf Kd.str l) : Bys l := fun b hb => h.2 b hb
theorem inr_u8 {x : Int} : InR .u8 x ↔ 0 ≤ x ∧ x ≤ 255 := by simp [InR, IntKind.min, IntKind.max, IntKind.signed, IntKind.bits]
theorem sl_bys {l : List Int} (h : Kd.wf BY l) : Bys l := fun b hb => inr_u8.1 (h.2 b hb)
theorem bys_get {l : List Int} (h : Bys l) (i : Nat) : 0 ≤ l.getD i 0 ∧ l.getD i 0 ≤ 255 := by
  by_cases hi : i < l.length
  . rw [List.getD_eq_getElem?_getD, List.getElem?_eq_getElem hi]
    exact h _ (List.getElem_mem hi)
  . rw [List.getD_eq_getElem?_getD, List.getElem?_eq_none (by omega)]
    decide
theorem bys_take {l : List Int} (h : Bys l) (n : Nat) : Bys (l.take n) := fun b hb => h b (List.mem_of_mem_take hb)
theorem bys_drop {l : List Int} (h : Bys l) (n : Nat) : Bys (l.drop n) := fun b hb => h b (List.mem_of_mem_drop hb)
theorem getD_drop (l : List Int) (i j : Nat) : (l.drop i).getD j 0 = l.getD (i + j) 0 := by
  rw [List.getD_eq_getElem?_getD, List.getElem?_drop, ← List.getD_eq_getElem?_getD]
theorem getD_take (l : List Int) (n j : Nat) (h : j < n) : (l.take n).getD j 0 = l.getD j 0 := by
  rw [List.getD_eq_getElem?_getD, List.getElem?_take_of_lt h, ← List.getD_eq_getElem?_getD]
theorem getD_append_left (l m : List Int) (j : Nat) (h : j < l.length) : (l ++ m).getD j 0 = l.getD j 0 := by
  rw [List.getD_eq_getElem?_getD, List.getElem?_append_left h, ← List.getD_eq_getElem?_getD]
theorem drop_consA {α : Type} (d : α) (l : List α) (n : Nat) (h : n < l.length) : l.drop n = l.getD n d :: l.drop (n + 1) := by
  rw [List.drop_eq_getElem_cons h, List.getD_eq_getElem?_getD, List.getElem?_eq_getElem h]
  rfl
theorem take_snocA {α : Type} (d : α) (l : List α) (n : Nat) (h : n < l.length) : l.take (n + 1) = l.take n ++ [l.getD n d] := by
  rw [List.take_add_one, List.getD_eq_getElem?_getD, List.getElem?_eq_getElem h]
  rfl
theorem drop_cons (l : List Int) (n : Nat) (h : n < l.length) : l.drop n = l.getD n 0 :: l.drop (n + 1) := drop_consA 0 l n h
theorem take_snoc (l : List Int) (n : Nat) (h : n < l.length) : l.take (n + 1) = l.take n ++ [l.getD n 0] := take_snocA 0 l n h
theorem all_getA {α : Type} (d : α) (p : α → Bool) (l : List α) (h : ∀ j, j < l.length → p (l.getD j d) = true) : l.all p = true := by
  rw [List.all_eq_true]
  intro x hx
  obtain ⟨j, hj, e⟩ := List.getElem_of_mem hx
  have := h j hj
  rw [List.getD_eq_getElem?_getD, List.getElem?_eq_getElem hj] at this
  rw [← e]; exact this
theorem all_notA {α : Type} (d : α) (p : α → Bool) (l : List α) (i : Nat) (hi : i < l.length) (h : p (l.getD i d) = false) : l.all p = false := by
  rw [List.all_eq_false]
  refine ⟨l[i], List.getElem_mem hi, ?_⟩
  rw [List.getD_eq_getElem?_getD, List.getElem?_eq_getElem hi] at h
  simpa using h
theorem all_get (p : Int → Bool) (l : List Int) (h : ∀ j, j < l.length → p (l.getD j 0) = true) : l.all p = true := all_getA 0 p l h
theorem all_not (p : Int → Bool) (l : List Int) (i : Nat) (hi : i < l.length) (h : p (l.getD i 0) = false) : l.all p = false := all_notA 0 p l i hi h
theorem mem_getD {α : Type} (d : α) (l : List α) (i : Nat) (h : i < l.length) : l.getD i d ∈ l := by
  rw [List.getD_eq_getElem?_getD, List.getElem?_eq_getElem h]
  exact List.getElem_mem h
theorem bs_nil : bs { data := #[] } = ([] : List Int) := rfl
theorem all_bool {E : Bool} {Q : Bool × Unit → Prop} : (∀ y : Bool × Unit, Kd.wf Kd.bool y.1 → y.1 = E → Q y) ↔ Q (E, ()) :=
  ⟨fun h => h (E, ()) trivial rfl, fun h y _ e => by obtain ⟨b, _⟩ := y; cases e; exact h⟩
end Go.Pl
end
section
namespace Go.Pl
open Go.Vc
open Go.RowKit
def idxB : List Int → Int → Int
  | [], _ => -1
  | a :: l, c => if a = c then 0 else if idxB l c < 0 then -1 else idxB l c + 1
def idxS : List Int → List Int → Int
  | [], sub => if sub.isEmpty then 0 else -1
  | a :: l, sub => if sub.isPrefixOf (a :: l) then 0 else if idxS l sub < 0 then -1 else idxS l sub + 1
def cutD (d : Int) : List Int → List Int × List Int × Bool
  | [] => ([], [], false)
  | c :: l => if c = d then ([], l, true) else (c :: (cutD d l).1, (cutD d l).2.1, (cutD d l).2.2)
def hasP (p l : List Int) : Bool := decide (l.take p.length = p)
def splitA (d : Int) (cur : List Int) : List Int → List (List Int)
  | [] => [cur]
  | c :: l => if c = d then cur :: splitA d [] l else splitA d (cur ++ [c]) l
theorem idxB_ge : ∀ (l : List Int) (c : Int), -1 ≤ idxB l c ∧ idxB l c < l.length
  | [], _ => by simp [idxB]
  | a :: l, c => by
    have := idxB_ge l c
    rw [idxB, List.length_cons]
    split
    . omega
    . split <;> omega
theorem idxB_mem : ∀ (l : List Int) (c : Int), 0 ≤ idxB l c ↔ c ∈ l
  | [], _ => by simp [idxB]
  | a :: l, c => by
    have ih := idxB_mem l c
    have := idxB_ge l c
    rw [idxB]
    split
    . rename_i h; simp [h]
    . rename_i h
      have hc : c ∈ a :: l ↔ c ∈ l := by simp [List.mem_cons]; intro e; exact absurd e.symm h
      rw [hc, ← ih]
      split <;> omega
theorem idxS_one : ∀ (l : List Int) (c : Int), idxS l [c] = idxB l c
  | [], _ => rfl
  | a :: l, c => by
    have ih := idxS_one l c
    have h : [c].isPrefixOf (a :: l) = decide (a = c) := by
      have : (c == a) = decide (a = c) := by
        by_cases h : a = c
        . subst h; simp
        . rw [decide_eq_false h]; simpa using fun e => h e.symm
      simp [List.isPrefixOf, this]
    rw [idxS, idxB, ih, h]
    by_cases h : a = c <;> simp [h]
theorem idxS_ge : ∀ (l m : List Int), -1 ≤ idxS l m ∧ idxS l m ≤ l.length
  | [], m => by rw [idxS]; split <;> simp
  | a :: l, m => by
    have := idxS_ge l m
    rw [idxS, List.length_cons]
    split
    . omega
    . split <;> omega
theorem u8_inj {a b : Int} (ha : 0 ≤ a ∧ a ≤ 255) (hb : 0 ≤ b ∧ b ≤ 255) : a.toNat.toUInt8 = b.toNat.toUInt8 ↔ a = b := by
  constructor
  . intro h
    have := congrArg UInt8.toNat h
    simp at this
    omega
  . intro h; rw [h]
theorem u8s_prefix : ∀ (m l : List Int), Bys m → Bys l → (u8s m).isPrefixOf (u8s l) = m.isPrefixOf l
  | [], l, _, _ => by simp [u8s]
  | b :: m, [], _, _ => rfl
  | b :: m, a :: l, hm, hl => by
    have ih := u8s_prefix m l (fun x hx => hm x (List.mem_cons_of_mem _ hx)) (fun x hx => hl x (List.mem_cons_of_mem _ hx))
    have hb := hm b (by simp)
    have ha := hl a (by simp)
    simp only [u8s, List.map_cons, List.isPrefixOf] at ih ⊢
    rw [ih]
    congr 1
    by_cases h : b = a
    . subst h; simp
    . rw [beq_eq_false_iff_ne.2 h, beq_eq_false_iff_ne.2 (fun e => h ((u8_inj hb ha).1 e))]
theorem idxS_lib : ∀ (l m : List Int), Bys l → Bys m → Lib.index (u8s l) (u8s m) = idxS l m
  | [], m, _, _ => by
    cases m <;> rfl
  | a :: l, m, hl, hm => by
    have ih := idxS_lib l m (fun x hx => hl x (List.mem_cons_of_mem _ hx)) hm
    have hp := u8s_prefix m (a :: l) hm hl
    have hg := idxS_ge l m
    simp only [u8s, List.map_cons] at ih hp ⊢
    rw [Lib.index, idxS, hp, ih]
    by_cases h1 : m.isPrefixOf (a :: l) = true
    . rw [if_pos h1, if_pos h1]
    . rw [if_neg h1, if_neg h1]
      by_cases h2 : idxS l m = -1
      . rw [if_pos (by simpa using h2), if_pos (by omega)]
      . rw [if_neg (by simpa using h2), if_neg (by omega)]
theorem idxB_lib : ∀ (l : List UInt8) (c : Int), 0 ≤ c ∧ c ≤ 255 → Lib.indexByte l c.toNat.toUInt8 = idxB (l.map fun b => (b.toNat : Int)) c
  | [], _, _ => rfl
  | b :: l, c, h => by
    have ih := idxB_lib l c h
    have hr := Lib.indexByte_ge l c.toNat.toUInt8
    have hb : (b == c.toNat.toUInt8) = true ↔ (b.toNat : Int) = c := by
      rw [beq_iff_eq, ← UInt8.toNat_inj]
      have : (c.toNat.toUInt8).toNat = c.toNat := by simp; omega
      rw [this]
      omega
    unfold Lib.indexByte
    rw [List.map_cons, idxB, ← ih]
    by_cases h1 : (b.toNat : Int) = c
    . rw [if_pos (hb.2 h1), if_pos h1]
    . rw [if_neg (fun hh => h1 (hb.1 hh)), if_neg h1]
      by_cases h2 : Lib.indexByte l c.toNat.toUInt8 = -1
      . rw [if_pos (by simpa using h2), if_pos (by omega)]
      . rw [if_neg (by simpa using h2), if_neg (by omega)]
theorem cutD_idx : ∀ (l : List Int) (d : Int), cutD d l = if 0 ≤ idxB l d then (l.take (idxB l d).toNat, l.drop ((idxB l d).toNat + 1), true) else (l, [], false)
  | [], _ => rfl
  | c :: l, d => by
    have ih := cutD_idx l d
    have hge := idxB_ge l d
    rw [cutD, idxB]
    by_cases h : c = d
    . rw [if_pos h, if_pos h]; rfl
    . rw [if_neg h, if_neg h, ih]
      by_cases h1 : idxB l d < 0
      . rw [if_pos h1, if_neg (show ¬ (0 : Int) ≤ -1 by omega), if_neg (show ¬ 0 ≤ idxB l d by omega)]
      . rw [if_neg h1, if_pos (show 0 ≤ idxB l d + 1 by omega), if_pos (show 0 ≤ idxB l d by omega), show (idxB l d + 1).toNat = (idxB l d).toNat + 1 by omega]
        simp
theorem cutD_len (l : List Int) (d : Int) : (cutD d l).1.length ≤ l.length ∧ (cutD d l).2.1.length ≤ l.length := by
  rw [cutD_idx]
  split
  . simp; omega
  . simp
theorem cutD_mem : ∀ (l : List Int) (d : Int), d ∉ (cutD d l).1
  | [], _ => by simp [cutD]
  | c :: l, d => by
    have := cutD_mem l d
    rw [cutD]
    split
    . simp
    . rename_i h
      simp only [List.mem_cons, not_or]
      exact ⟨fun e => h e.symm, this⟩
theorem cutD_join : ∀ (l : List Int) (d : Int), l = (cutD d l).1 ++ (if (cutD d l).2.2 then d :: (cutD d l).2.1 else [])
  | [], _ => rfl
  | c :: l, d => by
    have ih := cutD_join l d
    rw [cutD]
    split
    . rename_i h; simp [h]
    . simp only [List.cons_append]
      rw [← ih]
theorem cutD_app : ∀ (l m : List Int) (d : Int), d ∉ l → cutD d (l ++ d :: m) = (l, m, true)
  | [], m, d, _ => by simp [cutD]
  | c :: l, m, d, h => by
    simp only [List.mem_cons, not_or] at h
    rw [List.cons_append, cutD, if_neg (fun e => h.1 e.symm), cutD_app l m d h.2]
theorem cutD_none {l : List Int} {d : Int} (h : d ∉ l) : cutD d l = (l, [], false) := by
  have : ¬ 0 ≤ idxB l d := fun e => h ((idxB_mem l d).1 e)
  rw [cutD_idx, if_neg this]
theorem split_app : ∀ (w cur r : List Int) (d : Int), d ∉ w → splitA d cur (w ++ r) = splitA d (cur ++ w) r
  | [], cur, r, _, _ => by simp
  | c :: w, cur, r, d, h => by
    simp only [List.mem_cons, not_or] at h
    rw [List.cons_append, splitA, if_neg (fun e => h.1 e.symm), split_app w _ r d h.2]
    simp
theorem split_cut (d : Int) (l : List Int) : splitA d [] l = (cutD d l).1 :: (if (cutD d l).2.2 then splitA d [] (cutD d l).2.1 else []) := by
  have hj := cutD_join l d
  have hm := cutD_mem l d
  generalize cutD d l = c at hj hm ⊢
  obtain ⟨a, b, f⟩ := c
  simp only at hj hm ⊢
  subst hj
  rw [split_app _ _ _ _ hm]
  cases f
  . simp [splitA]
  . simp [splitA]
theorem split_len (d : Int) : ∀ (l cur : List Int), (splitA d cur l).length ≤ l.length + 1 ∧ 1 ≤ (splitA d cur l).length
  | [], cur => by simp [splitA]
  | c :: l, cur => by
    rw [splitA]
    split
    . have := split_len d l []
      simp; omega
    . have := split_len d l (cur ++ [c])
      simp; omega
theorem hasP_iff {p l : List Int} : hasP p l = true ↔ ∃ r, l = p ++ r := by
  unfold hasP
  rw [decide_eq_true_eq]
  constructor
  . intro h
    exact ⟨l.drop p.length, by
      have := List.take_append_drop p.length l
      rw [h] at this
      exact this.symm⟩
  . rintro ⟨r, rfl⟩
    simp
end Go.Pl
end
section
namespace Go.Pl
open Go.Vc
set_option linter.unusedVariables false
set_option linter.unusedSimpArgs false
def accTab : List (Int × Int) := (List.range 16).map fun i => ((Lib.accLo i : Int), (Lib.accHi i : Int))
def decD (l : List Int) : Int × Int := if l = [] then (65533, 0) else ((udec l 0).1, (udec l 0).2)
def chw (l : List Int) (i : Nat) : Nat := if (udec l i).1 = 65533 ∧ (udec l i).2 = 1 then 0 else (udec l i).2
theorem chw_dec {l : List Int} {i : Nat} (h : i < l.length ∧ chw l i ≠ 0) : l.length - (i + chw l i) < l.length - i := by omega
def vld (l : List Int) (i : Nat) : Nat := if h : i < l.length ∧ chw l i ≠ 0 then vld l (i + chw l i) else i
termination_by l.length - i
decreasing_by exact chw_dec h
def printsD (c : Int) : Bool := decide ((97 ≤ c ∧ c ≤ 122) ∨ (65 ≤ c ∧ c ≤ 90) ∨ (48 ≤ c ∧ c ≤ 57) ∨ c ∈ [32, 39, 40, 41, 43, 44, 45, 46, 47, 58, 61, 63])
def mayD (k : Int) (l : List Int) : Bool :=
  if 4096 < l.length then false else if k = 12 then decide (vld l 0 = l.length) else if k = 19 then l.all printsD else if k = 22 then l.all (fun c => decide (c < 128)) else false
def kindD (l : List Int) : Int × Int := if mayD 19 l then (19, 0) else if mayD 12 l then (12, 0) else (0, 50)
def moreD (l : List Int) (i n : Nat) : Bool := (List.range n).all fun j => decide (i + j < l.length ∧ 128 ≤ l.getD (i + j) 0 ∧ l.getD (i + j) 0 ≤ 191)
theorem str_mem {l : List Int} (h : Kd.wf Kd.str l) : ∀ b ∈ l, 0 ≤ b ∧ b ≤ 255 := fun b hb => by
  have h2 : InR .u8 b := h.2 b hb
  simpa [InR, IntKind.min, IntKind.max, IntKind.signed, IntKind.bits] using h2
theorem str_get {l : List Int} (h : Kd.wf Kd.str l) (i : Nat) : 0 ≤ l.getD i 0 ∧ l.getD i 0 ≤ 255 := by
  by_cases hi : i < l.length
  . rw [List.getD_eq_getElem?_getD, List.getElem?_eq_getElem hi]
    exact str_mem h _ (List.getElem_mem hi)
  . rw [List.getD_eq_getElem?_getD, List.getElem?_eq_none (by omega)]
    decide
theorem udec_w (l : List Int) (i : Nat) (h : i < l.length) : 1 ≤ (udec l i).2 ∧ (udec l i).2 ≤ 4 ∧ i + (udec l i).2 ≤ l.length := by
  unfold udec Lib.decodeN
  generalize (l.getD i 0).toNat = a
  generalize (l.getD (i + 1) 0).toNat = b
  generalize (l.getD (i + 2) 0).toNat = c
  generalize (l.getD (i + 3) 0).toNat = d
  repeat' split
  all_goals (simp only []; omega)
theorem udec_ascii (l : List Int) (i : Nat) (h : (l.getD i 0).toNat < 128) : udec l i = ((l.getD i 0).toNat, 1) := by
  unfold udec Lib.decodeN
  rw [if_pos h]
theorem udec_drop (l : List Int) (i : Nat) : udec (l.drop i) 0 = udec l i := by
  unfold udec
  rw [getD_drop, getD_drop, getD_drop, getD_drop, List.length_drop]
  rfl
theorem dec_drop (l : List Int) (i : Nat) (h : i < l.length) : decD (l.drop i) = (((udec l i).1 : Int), ((udec l i).2 : Int)) := by
  rw [decD, if_neg (fun e => by have := congrArg List.length e; simp at this; omega), udec_drop]
theorem vld_step {l : List Int} {i : Nat} (h : i < l.length) (h2 : chw l i ≠ 0) : vld l i = vld l (i + chw l i) := by
  rw [vld, dif_pos ⟨h, h2⟩]
theorem vld_stop {l : List Int} {i : Nat} (h : ¬ (i < l.length ∧ chw l i ≠ 0)) : vld l i = i := by
  rw [vld, dif_neg h]
theorem chw_le (l : List Int) (i : Nat) (h : i < l.length) : i + chw l i ≤ l.length := by
  have := udec_w l i h
  unfold chw
  split <;> omega
theorem prints_low {c : Int} (h : printsD c = true) : c < 128 := by
  simp [printsD] at h
  omega
theorem wrap32 (i : Int) (h0 : -2147483648 ≤ i) (h1 : i ≤ 2147483647) : IntKind.wrap .i32 i = i := by
  simp [IntKind.wrap, IntKind.signed, IntKind.bits]
  omega
theorem first_get (b : Nat) (h : b < 256) : Lib.firstTab.getD b 0 = (Lib.firstT b : Int) := by
  rw [Lib.firstTab, List.getD_eq_getElem?_getD, List.getElem?_map, List.getElem?_range h]
  rfl
theorem acc_get (k : Nat) (h : k < 16) : accTab.getD k (Kd.dft (.pair U8 U8)) = ((Lib.accLo k : Int), (Lib.accHi k : Int)) := by
  rw [accTab, List.getD_eq_getElem?_getD, List.getElem?_map, List.getElem?_range h]
  rfl
theorem first_sz (b : Nat) : Lib.firstT b ≤ 241 ∧ (240 ≤ Lib.firstT b → Lib.firstT b = 240 ∨ Lib.firstT b = 241) ∧ (Lib.firstT b < 240 → 2 ≤ Lib.firstT b % 8 ∧ Lib.firstT b % 8 ≤ 4) := by
  unfold Lib.firstT
  repeat' split
  all_goals omega
theorem and_31 (b : Nat) (h : b < 256) : IntKind.wrap .u8 ↑(BitVec.ofInt 8 (b : Int) &&& BitVec.ofInt 8 31).toNat = ((b % 32 : Nat) : Int) := by
  have key : ∀ b : Fin 256, IntKind.wrap .u8 ↑(BitVec.ofInt 8 (b.val : Int) &&& BitVec.ofInt 8 31).toNat = ((b.val % 32 : Nat) : Int) := by decide +kernel
  exact key ⟨b, h⟩
theorem and_63 (b : Nat) (h : b < 256) : IntKind.wrap .u8 ↑(BitVec.ofInt 8 (b : Int) &&& BitVec.ofInt 8 63).toNat = ((b % 64 : Nat) : Int) := by
  have key : ∀ b : Fin 256, IntKind.wrap .u8 ↑(BitVec.ofInt 8 (b.val : Int) &&& BitVec.ofInt 8 63).toNat = ((b.val % 64 : Nat) : Int) := by decide +kernel
  exact key ⟨b, h⟩
theorem and_15 (b : Nat) (h : b < 256) : IntKind.wrap .u8 ↑(BitVec.ofInt 8 (b : Int) &&& BitVec.ofInt 8 15).toNat = ((b % 16 : Nat) : Int) := by
  have key : ∀ b : Fin 256, IntKind.wrap .u8 ↑(BitVec.ofInt 8 (b.val : Int) &&& BitVec.ofInt 8 15).toNat = ((b.val % 16 : Nat) : Int) := by decide +kernel
  exact key ⟨b, h⟩
theorem and_7 (b : Nat) (h : b < 256) : IntKind.wrap .u8 ↑(BitVec.ofInt 8 (b : Int) &&& BitVec.ofInt 8 7).toNat = ((b % 8 : Nat) : Int) := by
  have key : ∀ b : Fin 256, IntKind.wrap .u8 ↑(BitVec.ofInt 8 (b.val : Int) &&& BitVec.ofInt 8 7).toNat = ((b.val % 8 : Nat) : Int) := by decide +kernel
  exact key ⟨b, h⟩
theorem or_sh (x y i : Nat) (hy : y < 2 ^ i) (hx : x * 2 ^ i + y < 2147483648) : IntKind.wrap .i32 ↑(BitVec.ofInt 32 ((x * 2 ^ i : Nat) : Int) ||| BitVec.ofInt 32 (y : Int)).toNat = ((x * 2 ^ i + y : Nat) : Int) := by
  rw [BitVec.toNat_or, BitVec.toNat_ofInt, BitVec.toNat_ofInt]
  have e1 : (((x * 2 ^ i : Nat) : Int) % ((2 ^ 32 : Nat) : Int)).toNat = x <<< i := by rw [Nat.shiftLeft_eq]; omega
  have e2 : ((y : Int) % ((2 ^ 32 : Nat) : Int)).toNat = y := by omega
  rw [e1, e2, ← Nat.shiftLeft_add_eq_or_of_lt hy, Nat.shiftLeft_eq]
  exact wrap32 _ (by omega) (by omega)
theorem cast_sh (x i : Nat) : (x : Int) * 2 ^ i = ((x * 2 ^ i : Nat) : Int) := by simp
theorem or2 (x y : Nat) (hx : x ≤ 31) (hy : y < 64) : IntKind.wrap .i32 ↑(BitVec.ofInt 32 (IntKind.wrap .i32 (IntKind.wrap .i32 (x : Int) * 2 ^ 6)) ||| BitVec.ofInt 32 (IntKind.wrap .i32 (y : Int))).toNat = ((x * 64 + y : Nat) : Int) := by
  rw [wrap32 (x : Int) (by omega) (by omega), wrap32 (y : Int) (by omega) (by omega), cast_sh, wrap32 ((x * 2 ^ 6 : Nat) : Int) (by omega) (by omega), or_sh x y 6 (by omega) (by omega)]
theorem or3 (x y z : Nat) (hx : x ≤ 15) (hy : y < 64) (hz : z < 64) : IntKind.wrap .i32 ↑(BitVec.ofInt 32 (IntKind.wrap .i32 ↑(BitVec.ofInt 32 (IntKind.wrap .i32 (IntKind.wrap .i32 (x : Int) * 2 ^ 12)) ||| BitVec.ofInt 32 (IntKind.wrap .i32 (IntKind.wrap .i32 (y : Int) * 2 ^ 6))).toNat) ||| BitVec.ofInt 32 (IntKind.wrap .i32 (z : Int))).toNat = ((x * 4096 + y * 64 + z : Nat) : Int) := by
  rw [wrap32 (x : Int) (by omega) (by omega), wrap32 (y : Int) (by omega) (by omega), wrap32 (z : Int) (by omega) (by omega), cast_sh, cast_sh, wrap32 ((x * 2 ^ 12 : Nat) : Int) (by omega) (by omega), wrap32 ((y * 2 ^ 6 : Nat) : Int) (by omega) (by omega), or_sh x (y * 2 ^ 6) 12 (by omega) (by omega),
    show x * 2 ^ 12 + y * 2 ^ 6 = (x * 64 + y) * 2 ^ 6 by omega, or_sh (x * 64 + y) z 6 (by omega) (by omega)]
theorem or4 (x y z u : Nat) (hx : x ≤ 7) (hy : y < 64) (hz : z < 64) (hu : u < 64) : IntKind.wrap .i32 ↑(BitVec.ofInt 32 (IntKind.wrap .i32 ↑(BitVec.ofInt 32 (IntKind.wrap .i32 ↑(BitVec.ofInt 32 (IntKind.wrap .i32 (IntKind.wrap .i32 (x : Int) * 2 ^ 18)) ||| BitVec.ofInt 32 (IntKind.wrap .i32 (IntKind.wrap .i32 (y : Int) * 2 ^ 12))).toNat) ||| BitVec.ofInt 32 (IntKind.wrap .i32 (IntKind.wrap .i32 (z : Int) * 2 ^ 6))).toNat) ||| BitVec.ofInt 32 (IntKind.wrap .i32 (u : Int))).toNat = ((x * 262144 + y * 4096 + z * 64 + u : Nat) : Int) := by
  rw [wrap32 (x : Int) (by omega) (by omega), wrap32 (y : Int) (by omega) (by omega), wrap32 (z : Int) (by omega) (by omega), wrap32 (u : Int) (by omega) (by omega), cast_sh, cast_sh, cast_sh, wrap32 ((x * 2 ^ 18 : Nat) : Int) (by omega) (by omega), wrap32 ((y * 2 ^ 12 : Nat) : Int) (by omega) (by omega), wrap32 ((z * 2 ^ 6 : Nat) : Int) (by omega) (by omega),
    or_sh x (y * 2 ^ 12) 18 (by omega) (by omega), show x * 2 ^ 18 + y * 2 ^ 12 = (x * 64 + y) * 2 ^ 12 by omega, or_sh (x * 64 + y) (z * 2 ^ 6) 12 (by omega) (by omega),
    show (x * 64 + y) * 2 ^ 12 + z * 2 ^ 6 = ((x * 64 + y) * 64 + z) * 2 ^ 6 by omega, or_sh ((x * 64 + y) * 64 + z) u 6 (by omega) (by omega)]
theorem mask_eq (b : Nat) (h : b < 256) (hF : 240 ≤ Lib.firstT b) :
    IntKind.i32.wrap ↑(BitVec.ofInt 32 (IntKind.i32.wrap ↑(BitVec.ofInt 32 (IntKind.i32.wrap (b : Int)) &&& ~~~BitVec.ofInt 32 ((IntKind.i32.wrap (IntKind.i32.wrap (Lib.firstT b : Int) * 2 ^ 31)).fdiv (2 ^ 31))).toNat) |||
      BitVec.ofInt 32 (IntKind.i32.wrap ↑(BitVec.ofInt 32 65533 &&& BitVec.ofInt 32 ((IntKind.i32.wrap (IntKind.i32.wrap (Lib.firstT b : Int) * 2 ^ 31)).fdiv (2 ^ 31))).toNat)).toNat = if Lib.firstT b = 240 then (b : Int) else 65533 := by
  have key : ∀ b : Fin 256, 240 ≤ Lib.firstT b.val → IntKind.i32.wrap ↑(BitVec.ofInt 32 (IntKind.i32.wrap ↑(BitVec.ofInt 32 (IntKind.i32.wrap (b.val : Int)) &&& ~~~BitVec.ofInt 32 ((IntKind.i32.wrap (IntKind.i32.wrap (Lib.firstT b.val : Int) * 2 ^ 31)).fdiv (2 ^ 31))).toNat) |||
      BitVec.ofInt 32 (IntKind.i32.wrap ↑(BitVec.ofInt 32 65533 &&& BitVec.ofInt 32 ((IntKind.i32.wrap (IntKind.i32.wrap (Lib.firstT b.val : Int) * 2 ^ 31)).fdiv (2 ^ 31))).toNat)).toNat = if Lib.firstT b.val = 240 then (b.val : Int) else 65533 := by decide +kernel
  exact key ⟨b, h⟩ hF
theorem nat_of (l : List Int) (h : Kd.wf Kd.str l) (i : Nat) : ∃ b : Nat, l.getD i 0 = (b : Int) ∧ b < 256 := by
  have := str_get h i
  exact ⟨(l.getD i 0).toNat, by omega, by omega⟩
def valK (v b1 b2 b3 k : Int) : Int := if k = 1 then v else if k = 2 then 64 * v + b1 - 128 else if k = 3 then 64 * (64 * v + b1 - 128) + b2 - 128 else 64 * (64 * (64 * v + b1 - 128) + b2 - 128) + b3 - 128
theorem more_iff (l : List Int) (i n : Nat) : moreD l i n = true ↔ ∀ j, j < n → i + j < l.length ∧ 128 ≤ l.getD (i + j) 0 ∧ l.getD (i + j) 0 ≤ 191 := by
  simp only [moreD, List.all_eq_true, List.mem_range, decide_eq_true_eq]
def wid (r : Nat × Nat) : Nat := if r.1 = 65533 ∧ r.2 = 1 then 0 else r.2
theorem chw_at (l : List Int) (i : Nat) {b0 b1 b2 b3 : Nat} (e0 : l.getD i 0 = b0) (e1 : l.getD (i + 1) 0 = b1) (e2 : l.getD (i + 2) 0 = b2) (e3 : l.getD (i + 3) 0 = b3) :
    chw l i = wid (Lib.decodeN (l.length - i) b0 b1 b2 b3) := by
  unfold chw udec
  rw [e0, e1, e2, e3]
  rfl
theorem dec_low {n b0 b1 b2 b3 : Nat} (h : b0 < 128) : wid (Lib.decodeN n b0 b1 b2 b3) = 1 := by
  unfold Lib.decodeN
  rw [if_pos h, wid, if_neg (by simp only; omega)]
theorem dec_bad {n b0 b1 b2 b3 : Nat} (h : 128 ≤ b0 ∧ b0 < 192 ∨ 247 < b0 ∧ b0 < 256) : wid (Lib.decodeN n b0 b1 b2 b3) = 0 := by
  unfold Lib.decodeN
  rw [if_neg (by omega), if_neg (by omega), if_neg (by omega), if_neg (by omega)]
  rfl
theorem ite_wid {p q : Prop} [Decidable p] [Decidable q] (v m : Nat) (hm : m ≠ 1) : wid (if p then (if q then (v, m) else (65533, 1)) else (65533, 1)) = if p ∧ q then m else 0 := by
  by_cases hp : p
  . rw [if_pos hp]
    by_cases hq : q
    . rw [if_pos hq, if_pos ⟨hp, hq⟩, wid, if_neg (fun h => hm h.2)]
    . rw [if_neg hq, if_neg (fun h => hq h.2)]; rfl
  . rw [if_neg hp, if_neg (fun h => hp h.1)]; rfl
theorem dec_2 {n b0 b1 b2 b3 : Nat} (h : 192 ≤ b0 ∧ b0 < 224) : wid (Lib.decodeN n b0 b1 b2 b3) = if (b0 / 32 = 6 ∧ (1 < n ∧ b1 / 64 = 2)) ∧ b0 % 32 * 64 + b1 % 64 ≥ 128 then 2 else 0 := by
  have h4 : ¬ (b0 / 8 = 30 ∧ (1 < n ∧ b1 / 64 = 2) ∧ (2 < n ∧ b2 / 64 = 2) ∧ (3 < n ∧ b3 / 64 = 2)) := by omega
  have h3 : ¬ (b0 / 16 = 14 ∧ (1 < n ∧ b1 / 64 = 2) ∧ (2 < n ∧ b2 / 64 = 2)) := by omega
  unfold Lib.decodeN
  rw [if_neg (show ¬ b0 < 128 by omega), if_neg h3, if_neg h4]
  exact ite_wid _ 2 (by decide)
set_option maxRecDepth 100000 in
theorem dec_3 {n b0 b1 b2 b3 : Nat} (h : 224 ≤ b0 ∧ b0 < 240) : wid (Lib.decodeN n b0 b1 b2 b3) = if (b0 / 16 = 14 ∧ (1 < n ∧ b1 / 64 = 2) ∧ (2 < n ∧ b2 / 64 = 2)) ∧ b0 % 16 * 4096 + b1 % 64 * 64 + b2 % 64 ≥ 2048 ∧ (b0 % 16 * 4096 + b1 % 64 * 64 + b2 % 64 < 55296 ∨ (57344 ≤ b0 % 16 * 4096 + b1 % 64 * 64 + b2 % 64 ∧ b0 % 16 * 4096 + b1 % 64 * 64 + b2 % 64 ≤ 1114111)) then 3 else 0 := by
  have h4 : ¬ (b0 / 8 = 30 ∧ (1 < n ∧ b1 / 64 = 2) ∧ (2 < n ∧ b2 / 64 = 2) ∧ (3 < n ∧ b3 / 64 = 2)) := by omega
  have h2 : ¬ (b0 / 32 = 6 ∧ (1 < n ∧ b1 / 64 = 2)) := by omega
  unfold Lib.decodeN
  rw [if_neg (show ¬ b0 < 128 by omega), if_neg h2, if_neg h4]
  exact ite_wid _ 3 (by decide)
set_option maxRecDepth 100000 in
theorem dec_4 {n b0 b1 b2 b3 : Nat} (h : 240 ≤ b0 ∧ b0 < 248) : wid (Lib.decodeN n b0 b1 b2 b3) = if (b0 / 8 = 30 ∧ (1 < n ∧ b1 / 64 = 2) ∧ (2 < n ∧ b2 / 64 = 2) ∧ (3 < n ∧ b3 / 64 = 2)) ∧ b0 % 8 * 262144 + b1 % 64 * 4096 + b2 % 64 * 64 + b3 % 64 ≥ 65536 ∧ (b0 % 8 * 262144 + b1 % 64 * 4096 + b2 % 64 * 64 + b3 % 64 < 55296 ∨ (57344 ≤ b0 % 8 * 262144 + b1 % 64 * 4096 + b2 % 64 * 64 + b3 % 64 ∧ b0 % 8 * 262144 + b1 % 64 * 4096 + b2 % 64 * 64 + b3 % 64 ≤ 1114111)) then 4 else 0 := by
  have h3 : ¬ (b0 / 16 = 14 ∧ (1 < n ∧ b1 / 64 = 2) ∧ (2 < n ∧ b2 / 64 = 2)) := by omega
  have h2 : ¬ (b0 / 32 = 6 ∧ (1 < n ∧ b1 / 64 = 2)) := by omega
  unfold Lib.decodeN
  rw [if_neg (show ¬ b0 < 128 by omega), if_neg h2, if_neg h3]
  exact ite_wid _ 4 (by decide)
theorem chw_mid {l : List Int} (hw : Kd.wf Kd.str l) {i : Nat} (hi : i < l.length) {n : Int} (h0 : 192 ≤ l.getD i 0 ∧ l.getD i 0 ≤ 247)
    (hn : n = 1 ∧ l.getD i 0 < 224 ∨ n = 2 ∧ 224 ≤ l.getD i 0 ∧ l.getD i 0 < 240 ∨ n = 3 ∧ 240 ≤ l.getD i 0) (hm : moreD l (i + 1) n.toNat = false) : chw l i = 0 := by
  obtain ⟨b0, e0, g0⟩ := nat_of l hw i
  obtain ⟨b1, e1, g1⟩ := nat_of l hw (i + 1)
  obtain ⟨b2, e2, g2⟩ := nat_of l hw (i + 2)
  obtain ⟨b3, e3, g3⟩ := nat_of l hw (i + 3)
  have hm : ¬ ∀ j, j < n.toNat → i + 1 + j < l.length ∧ 128 ≤ l.getD (i + 1 + j) 0 ∧ l.getD (i + 1 + j) 0 ≤ 191 := fun h => by rw [(more_iff l (i + 1) n.toNat).2 h] at hm; cases hm
  rw [chw_at l i e0 e1 e2 e3]
  rw [e0] at h0 hn
  rcases hn with ⟨rfl, hn⟩ | ⟨rfl, hn⟩ | ⟨rfl, hn⟩
  . rw [dec_2 (by omega), if_neg]
    intro h
    refine hm (fun j hj => ?_)
    rw [show j = 0 by omega, Nat.add_zero, e1]
    omega
  . rw [dec_3 (by omega), if_neg]
    intro h
    refine hm (fun j hj => ?_)
    rcases (show j = 0 ∨ j = 1 by omega) with rfl | rfl
    . rw [Nat.add_zero, e1]
      omega
    . rw [show i + 1 + 1 = i + 2 by omega, e2]
      omega
  . rw [dec_4 (by omega), if_neg]
    intro h
    refine hm (fun j hj => ?_)
    rcases (show j = 0 ∨ j = 1 ∨ j = 2 by omega) with rfl | rfl | rfl
    . rw [Nat.add_zero, e1]
      omega
    . rw [show i + 1 + 1 = i + 2 by omega, e2]
      omega
    . rw [show i + 1 + 2 = i + 3 by omega, e3]
      omega
theorem chw_end {l : List Int} (hw : Kd.wf Kd.str l) {i : Nat} (hi : i < l.length) {n v0 least : Int} (h0 : 192 ≤ l.getD i 0 ∧ l.getD i 0 ≤ 247)
    (hn : n = 1 ∧ l.getD i 0 < 224 ∧ v0 = l.getD i 0 - 192 ∧ least = 128 ∨ n = 2 ∧ 224 ≤ l.getD i 0 ∧ l.getD i 0 < 240 ∧ v0 = l.getD i 0 - 224 ∧ least = 2048 ∨ n = 3 ∧ 240 ≤ l.getD i 0 ∧ v0 = l.getD i 0 - 240 ∧ least = 65536) (hm : moreD l (i + 1) n.toNat = true) :
    (chw l i : Int) = if valK v0 (l.getD (i + 1) 0) (l.getD (i + 2) 0) (l.getD (i + 3) 0) (n + 1) < least ∨ 1114111 < valK v0 (l.getD (i + 1) 0) (l.getD (i + 2) 0) (l.getD (i + 3) 0) (n + 1) ∨
      55296 ≤ valK v0 (l.getD (i + 1) 0) (l.getD (i + 2) 0) (l.getD (i + 3) 0) (n + 1) ∧ valK v0 (l.getD (i + 1) 0) (l.getD (i + 2) 0) (l.getD (i + 3) 0) (n + 1) ≤ 57343 then 0 else n + 1 := by
  obtain ⟨b0, e0, g0⟩ := nat_of l hw i
  obtain ⟨b1, e1, g1⟩ := nat_of l hw (i + 1)
  obtain ⟨b2, e2, g2⟩ := nat_of l hw (i + 2)
  obtain ⟨b3, e3, g3⟩ := nat_of l hw (i + 3)
  rw [more_iff] at hm
  rw [chw_at l i e0 e1 e2 e3, e1, e2, e3]
  rw [e0] at h0 hn
  rcases hn with ⟨rfl, hn⟩ | ⟨rfl, hn⟩ | ⟨rfl, hn⟩
  . rw [dec_2 (by omega)]
    have m0 := hm 0 (by decide)
    rw [Nat.add_zero, e1] at m0
    rw [show valK v0 b1 b2 b3 (1 + 1) = 64 * v0 + b1 - 128 from rfl]
    split <;> split <;> omega
  . rw [dec_3 (by omega)]
    have m0 := hm 0 (by decide)
    have m1 := hm 1 (by decide)
    rw [Nat.add_zero, e1] at m0
    rw [show i + 1 + 1 = i + 2 by omega, e2] at m1
    rw [show valK v0 b1 b2 b3 (2 + 1) = 64 * (64 * v0 + b1 - 128) + b2 - 128 from rfl]
    split <;> split <;> omega
  . rw [dec_4 (by omega)]
    have m0 := hm 0 (by decide)
    have m1 := hm 1 (by decide)
    have m2 := hm 2 (by decide)
    rw [Nat.add_zero, e1] at m0
    rw [show i + 1 + 1 = i + 2 by omega, e2] at m1
    rw [show i + 1 + 2 = i + 3 by omega, e3] at m2
    rw [show valK v0 b1 b2 b3 (3 + 1) = 64 * (64 * (64 * v0 + b1 - 128) + b2 - 128) + b3 - 128 from rfl]
    split <;> split <;> omega
end Go.Pl
end
