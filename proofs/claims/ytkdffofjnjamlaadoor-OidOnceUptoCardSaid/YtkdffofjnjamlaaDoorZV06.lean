/- Texts of a verified walk, led together: Plain, Strs, Oid. -/
import Derived.Test.YtkdffofjnjamlaaDoorZV05
import Derived.Lib.Bytealg
import Derived.Lib.IndexMore
import Derived.Lib.ItoaNum
import Derived.Lib.Join
import Derived.Lib.AtoiTie
set_option linter.unusedVariables false
set_option linter.unusedSimpArgs false
section
/- Plain facts that walks need. -/
namespace Go.Pl
open Go.Vc
open Go.RowKit

abbrev U8 : Kd := .int .u8
abbrev U16 : Kd := .int .u16
abbrev U32 : Kd := .int .u32
abbrev U64 : Kd := .int .u64
abbrev I32 : Kd := .int .i32
abbrev I64 : Kd := .int .i64
abbrev BY : Kd := .sl U8

theorem wrapK (i : Int) (h0 : -9000000000000000000 ≤ i) (h1 : i ≤ 9000000000000000000) : IntKind.wrap .i64 i = i := by rw [IntKind.wrap_i64]; omega
theorem wrapM (i : Int) (h0 : -9223372036854775808 ≤ i) (h1 : i ≤ 9223372036854775807) : IntKind.wrap .i64 i = i := by rw [IntKind.wrap_i64]; omega
theorem wrap8 (i : Int) (h0 : 0 ≤ i) (h1 : i ≤ 255) : IntKind.wrap .u8 i = i := by
  simp [IntKind.wrap, IntKind.signed, IntKind.bits]
  omega
theorem sumOnes {α : Type} (l : List α) : (l.map fun _ => 1).sum = l.length := by
  induction l with
  | nil => rfl
  | cons _ _ ih => simp [ih]; omega
/-- Are these bytes? -/
def Bys (l : List Int) : Prop := ∀ b ∈ l, 0 ≤ b ∧ b ≤ 255
theorem str_bys {l : List Int} (h : Kd.wf Kd.str l) : Bys l := fun b hb => h.2 b hb
theorem inr_u8 {x : Int} : InR .u8 x ↔ 0 ≤ x ∧ x ≤ 255 := by simp [InR, IntKind.min, IntKind.max, IntKind.signed, IntKind.bits]
theorem sl_bys {l : List Int} (h : Kd.wf BY l) : Bys l := fun b hb => inr_u8.1 (h.2 b hb)
theorem bys_get {l : List Int} (h : Bys l) (i : Nat) : 0 ≤ l.getD i 0 ∧ l.getD i 0 ≤ 255 := by
  by_cases hi : i < l.length
  · rw [List.getD_eq_getElem?_getD, List.getElem?_eq_getElem hi]
    exact h _ (List.getElem_mem hi)
  · rw [List.getD_eq_getElem?_getD, List.getElem?_eq_none (by omega)]
    decide
theorem bys_app {l m : List Int} (h : Bys l) (k : Bys m) : Bys (l ++ m) := fun b hb => (List.mem_append.1 hb).elim (h b) (k b)
theorem bys_take {l : List Int} (h : Bys l) (n : Nat) : Bys (l.take n) := fun b hb => h b (List.mem_of_mem_take hb)
theorem bys_drop {l : List Int} (h : Bys l) (n : Nat) : Bys (l.drop n) := fun b hb => h b (List.mem_of_mem_drop hb)
theorem getD_drop (l : List Int) (i j : Nat) : (l.drop i).getD j 0 = l.getD (i + j) 0 := by
  rw [List.getD_eq_getElem?_getD, List.getElem?_drop, ← List.getD_eq_getElem?_getD]
theorem getD_take (l : List Int) (n j : Nat) (h : j < n) : (l.take n).getD j 0 = l.getD j 0 := by
  rw [List.getD_eq_getElem?_getD, List.getElem?_take_of_lt h, ← List.getD_eq_getElem?_getD]
theorem getD_append_left (l m : List Int) (j : Nat) (h : j < l.length) : (l ++ m).getD j 0 = l.getD j 0 := by
  rw [List.getD_eq_getElem?_getD, List.getElem?_append_left h, ← List.getD_eq_getElem?_getD]
theorem getD_append_right (l m : List Int) (j : Nat) : (l ++ m).getD (l.length + j) 0 = m.getD j 0 := by
  rw [List.getD_eq_getElem?_getD, List.getElem?_append_right (by omega), Nat.add_sub_cancel_left, ← List.getD_eq_getElem?_getD]
theorem drop_consA {α : Type} (d : α) (l : List α) (n : Nat) (h : n < l.length) : l.drop n = l.getD n d :: l.drop (n + 1) := by
  rw [List.drop_eq_getElem_cons h, List.getD_eq_getElem?_getD, List.getElem?_eq_getElem h]
  rfl
theorem take_snocA {α : Type} (d : α) (l : List α) (n : Nat) (h : n < l.length) : l.take (n + 1) = l.take n ++ [l.getD n d] := by
  rw [List.take_add_one, List.getD_eq_getElem?_getD, List.getElem?_eq_getElem h]
  rfl
theorem drop_cons (l : List Int) (n : Nat) (h : n < l.length) : l.drop n = l.getD n 0 :: l.drop (n + 1) := drop_consA 0 l n h
theorem take_snoc (l : List Int) (n : Nat) (h : n < l.length) : l.take (n + 1) = l.take n ++ [l.getD n 0] := take_snocA 0 l n h
theorem nil_of_len {α : Type} {l : List α} (h : (l.length : Int) ≤ 0) : l = [] := List.eq_nil_of_length_eq_zero (by omega)
theorem all_getA {α : Type} (d : α) (p : α → Bool) (l : List α) (h : ∀ j, j < l.length → p (l.getD j d) = true) : l.all p = true := by
  rw [List.all_eq_true]
  intro x hx
  obtain ⟨j, hj, e⟩ := List.getElem_of_mem hx
  have := h j hj
  rw [List.getD_eq_getElem?_getD, List.getElem?_eq_getElem hj] at this
  rw [← e]; exact this
theorem all_notA {α : Type} (d : α) (p : α → Bool) (l : List α) (i : Nat) (hi : i < l.length) (h : p (l.getD i d) = false) : l.all p = false := by
  rw [List.all_eq_false]
  refine ⟨l[i], List.getElem_mem hi, ?_⟩
  rw [List.getD_eq_getElem?_getD, List.getElem?_eq_getElem hi] at h
  simpa using h
theorem all_get (p : Int → Bool) (l : List Int) (h : ∀ j, j < l.length → p (l.getD j 0) = true) : l.all p = true := all_getA 0 p l h
theorem all_not (p : Int → Bool) (l : List Int) (i : Nat) (hi : i < l.length) (h : p (l.getD i 0) = false) : l.all p = false := all_notA 0 p l i hi h
theorem get_all {p : Int → Bool} {l : List Int} (h : l.all p = true) (j : Nat) (hj : j < l.length) : p (l.getD j 0) = true := by
  rw [List.all_eq_true] at h
  rw [List.getD_eq_getElem?_getD, List.getElem?_eq_getElem hj]
  exact h _ (List.getElem_mem hj)
theorem mem_getD {α : Type} (d : α) (l : List α) (i : Nat) (h : i < l.length) : l.getD i d ∈ l := by
  rw [List.getD_eq_getElem?_getD, List.getElem?_eq_getElem h]
  exact List.getElem_mem h
theorem bs_nil : bs { data := #[] } = ([] : List Int) := rfl
theorem drop_head {α : Type} (d : α) {W r : List α} {n : Nat} {w : α} (h : W.drop n = w :: r) : n < W.length ∧ W.getD n d = w ∧ W.drop (n + 1) = r := by
  have hn : n < W.length := by
    have := congrArg List.length h
    simp at this
    omega
  rw [drop_consA d W n hn, List.cons.injEq] at h
  exact ⟨hn, h.1, h.2⟩
/-- What is asked of whatever a call gives is asked of what it gives. -/
theorem all_bool {E : Bool} {Q : Bool × Unit → Prop} : (∀ y : Bool × Unit, Kd.wf Kd.bool y.1 → y.1 = E → Q y) ↔ Q (E, ()) :=
  ⟨fun h => h (E, ()) trivial rfl, fun h y _ e => by obtain ⟨b, _⟩ := y; cases e; exact h⟩
theorem all_int {k : IntKind} {E : Int} {Q : Int × Unit → Prop} : (∀ y : Int × Unit, Kd.wf (Kd.int k) y.1 → y.1 = E → Q y) ↔ (Kd.wf (Kd.int k) E → Q (E, ())) :=
  ⟨fun h hw => h (E, ()) hw rfl, fun h y hw e => by obtain ⟨b, _⟩ := y; cases e; exact h hw⟩
theorem all_str {E : List Int} {Q : List Int × Unit → Prop} : (∀ y : List Int × Unit, Kd.wf Kd.str y.1 → y.1 = E → Q y) ↔ (Kd.wf Kd.str E → Q (E, ())) :=
  ⟨fun h hw => h (E, ()) hw rfl, fun h y hw e => by obtain ⟨b, _⟩ := y; cases e; exact h hw⟩
end Go.Pl
end
section
/- Texts: places of bytes and of texts in texts. -/
namespace Go.Pl
open Go.Vc
open Go.RowKit

/-- A letter, made small. -/
def smallD (c : Int) : Int := if 65 ≤ c ∧ c ≤ 90 then c + 32 else c
/-- The first place of a byte. -/
def idxB : List Int → Int → Int
  | [], _ => -1
  | a :: l, c => if a = c then 0 else if idxB l c < 0 then -1 else idxB l c + 1
/-- The first place of a text. -/
def idxS : List Int → List Int → Int
  | [], sub => if sub.isEmpty then 0 else -1
  | a :: l, sub => if sub.isPrefixOf (a :: l) then 0 else if idxS l sub < 0 then -1 else idxS l sub + 1
/-- A text around the first place of a byte. -/
def cutD (d : Int) : List Int → List Int × List Int × Bool
  | [] => ([], [], false)
  | c :: l => if c = d then ([], l, true) else (c :: (cutD d l).1, (cutD d l).2.1, (cutD d l).2.2)
/-- Does a text begin so? -/
def hasP (p l : List Int) : Bool := decide (l.take p.length = p)
/-- The pieces of a text between a byte. -/
def splitA (d : Int) (cur : List Int) : List Int → List (List Int)
  | [] => [cur]
  | c :: l => if c = d then cur :: splitA d [] l else splitA d (cur ++ [c]) l

theorem idxB_ge : ∀ (l : List Int) (c : Int), -1 ≤ idxB l c ∧ idxB l c < l.length
  | [], _ => by simp [idxB]
  | a :: l, c => by
    have := idxB_ge l c
    rw [idxB, List.length_cons]
    split
    · omega
    · split <;> omega
theorem idxB_mem : ∀ (l : List Int) (c : Int), 0 ≤ idxB l c ↔ c ∈ l
  | [], _ => by simp [idxB]
  | a :: l, c => by
    have ih := idxB_mem l c
    have := idxB_ge l c
    rw [idxB]
    split
    · rename_i h; simp [h]
    · rename_i h
      have hc : c ∈ a :: l ↔ c ∈ l := by simp [List.mem_cons]; intro e; exact absurd e.symm h
      rw [hc, ← ih]
      split <;> omega
theorem idxS_one : ∀ (l : List Int) (c : Int), idxS l [c] = idxB l c
  | [], _ => rfl
  | a :: l, c => by
    have ih := idxS_one l c
    have h : [c].isPrefixOf (a :: l) = decide (a = c) := by
      have : (c == a) = decide (a = c) := by
        by_cases h : a = c
        · subst h; simp
        · rw [decide_eq_false h]; simpa using fun e => h e.symm
      simp [List.isPrefixOf, this]
    rw [idxS, idxB, ih, h]
    by_cases h : a = c <;> simp [h]
theorem idxS_ge : ∀ (l m : List Int), -1 ≤ idxS l m ∧ idxS l m ≤ l.length
  | [], m => by rw [idxS]; split <;> simp
  | a :: l, m => by
    have := idxS_ge l m
    rw [idxS, List.length_cons]
    split
    · omega
    · split <;> omega
theorem u8_inj {a b : Int} (ha : 0 ≤ a ∧ a ≤ 255) (hb : 0 ≤ b ∧ b ≤ 255) : a.toNat.toUInt8 = b.toNat.toUInt8 ↔ a = b := by
  constructor
  · intro h
    have := congrArg UInt8.toNat h
    simp at this
    omega
  · intro h; rw [h]
theorem u8s_prefix : ∀ (m l : List Int), Bys m → Bys l → (u8s m).isPrefixOf (u8s l) = m.isPrefixOf l
  | [], l, _, _ => by simp [u8s]
  | b :: m, [], _, _ => rfl
  | b :: m, a :: l, hm, hl => by
    have ih := u8s_prefix m l (fun x hx => hm x (List.mem_cons_of_mem _ hx)) (fun x hx => hl x (List.mem_cons_of_mem _ hx))
    have hb := hm b (by simp)
    have ha := hl a (by simp)
    simp only [u8s, List.map_cons, List.isPrefixOf] at ih ⊢
    rw [ih]
    congr 1
    by_cases h : b = a
    · subst h; simp
    · rw [beq_eq_false_iff_ne.2 h, beq_eq_false_iff_ne.2 (fun e => h ((u8_inj hb ha).1 e))]
theorem idxS_lib : ∀ (l m : List Int), Bys l → Bys m → Lib.index (u8s l) (u8s m) = idxS l m
  | [], m, _, _ => by
    cases m <;> rfl
  | a :: l, m, hl, hm => by
    have ih := idxS_lib l m (fun x hx => hl x (List.mem_cons_of_mem _ hx)) hm
    have hp := u8s_prefix m (a :: l) hm hl
    have hg := idxS_ge l m
    simp only [u8s, List.map_cons] at ih hp ⊢
    rw [Lib.index, idxS, hp, ih]
    by_cases h1 : m.isPrefixOf (a :: l) = true
    · rw [if_pos h1, if_pos h1]
    · rw [if_neg h1, if_neg h1]
      by_cases h2 : idxS l m = -1
      · rw [if_pos (by simpa using h2), if_pos (by omega)]
      · rw [if_neg (by simpa using h2), if_neg (by omega)]
theorem idxB_lib : ∀ (l : List UInt8) (c : Int), 0 ≤ c ∧ c ≤ 255 → Lib.indexByte l c.toNat.toUInt8 = idxB (l.map fun b => (b.toNat : Int)) c
  | [], _, _ => rfl
  | b :: l, c, h => by
    have ih := idxB_lib l c h
    have hr := Lib.indexByte_ge l c.toNat.toUInt8
    have hb : (b == c.toNat.toUInt8) = true ↔ (b.toNat : Int) = c := by
      rw [beq_iff_eq, ← UInt8.toNat_inj]
      have : (c.toNat.toUInt8).toNat = c.toNat := by simp; omega
      rw [this]
      omega
    unfold Lib.indexByte
    rw [List.map_cons, idxB, ← ih]
    by_cases h1 : (b.toNat : Int) = c
    · rw [if_pos (hb.2 h1), if_pos h1]
    · rw [if_neg (fun hh => h1 (hb.1 hh)), if_neg h1]
      by_cases h2 : Lib.indexByte l c.toNat.toUInt8 = -1
      · rw [if_pos (by simpa using h2), if_pos (by omega)]
      · rw [if_neg (by simpa using h2), if_neg (by omega)]

theorem cutD_idx : ∀ (l : List Int) (d : Int), cutD d l = if 0 ≤ idxB l d then (l.take (idxB l d).toNat, l.drop ((idxB l d).toNat + 1), true) else (l, [], false)
  | [], _ => rfl
  | c :: l, d => by
    have ih := cutD_idx l d
    have hge := idxB_ge l d
    rw [cutD, idxB]
    by_cases h : c = d
    · rw [if_pos h, if_pos h]; rfl
    · rw [if_neg h, if_neg h, ih]
      by_cases h1 : idxB l d < 0
      · rw [if_pos h1, if_neg (show ¬ (0 : Int) ≤ -1 by omega), if_neg (show ¬ 0 ≤ idxB l d by omega)]
      · rw [if_neg h1, if_pos (show 0 ≤ idxB l d + 1 by omega), if_pos (show 0 ≤ idxB l d by omega), show (idxB l d + 1).toNat = (idxB l d).toNat + 1 by omega]
        simp
theorem cutD_len (l : List Int) (d : Int) : (cutD d l).1.length ≤ l.length ∧ (cutD d l).2.1.length ≤ l.length := by
  rw [cutD_idx]
  split
  · simp; omega
  · simp
theorem cutD_mem : ∀ (l : List Int) (d : Int), d ∉ (cutD d l).1
  | [], _ => by simp [cutD]
  | c :: l, d => by
    have := cutD_mem l d
    rw [cutD]
    split
    · simp
    · rename_i h
      simp only [List.mem_cons, not_or]
      exact ⟨fun e => h e.symm, this⟩
theorem cutD_join : ∀ (l : List Int) (d : Int), l = (cutD d l).1 ++ (if (cutD d l).2.2 then d :: (cutD d l).2.1 else [])
  | [], _ => rfl
  | c :: l, d => by
    have ih := cutD_join l d
    rw [cutD]
    split
    · rename_i h; simp [h]
    · simp only [List.cons_append]
      rw [← ih]
theorem cutD_rest {l : List Int} {d : Int} (h : (cutD d l).2.2 = false) : (cutD d l).2.1 = [] ∧ (cutD d l).1 = l := by
  have hj := cutD_join l d
  rw [h] at hj
  refine ⟨?_, by simpa using hj.symm⟩
  rw [cutD_idx] at h ⊢
  split at h
  · cases h
  · rw [if_neg (by assumption)]
theorem cutD_app : ∀ (l m : List Int) (d : Int), d ∉ l → cutD d (l ++ d :: m) = (l, m, true)
  | [], m, d, _ => by simp [cutD]
  | c :: l, m, d, h => by
    simp only [List.mem_cons, not_or] at h
    rw [List.cons_append, cutD, if_neg (fun e => h.1 e.symm), cutD_app l m d h.2]
theorem cutD_none {l : List Int} {d : Int} (h : d ∉ l) : cutD d l = (l, [], false) := by
  have : ¬ 0 ≤ idxB l d := fun e => h ((idxB_mem l d).1 e)
  rw [cutD_idx, if_neg this]

theorem split_app : ∀ (w cur r : List Int) (d : Int), d ∉ w → splitA d cur (w ++ r) = splitA d (cur ++ w) r
  | [], cur, r, _, _ => by simp
  | c :: w, cur, r, d, h => by
    simp only [List.mem_cons, not_or] at h
    rw [List.cons_append, splitA, if_neg (fun e => h.1 e.symm), split_app w _ r d h.2]
    simp
theorem split_cut (d : Int) (l : List Int) : splitA d [] l = (cutD d l).1 :: (if (cutD d l).2.2 then splitA d [] (cutD d l).2.1 else []) := by
  have hj := cutD_join l d
  have hm := cutD_mem l d
  generalize cutD d l = c at hj hm ⊢
  obtain ⟨a, b, f⟩ := c
  simp only at hj hm ⊢
  subst hj
  rw [split_app _ _ _ _ hm]
  cases f
  · simp [splitA]
  · simp [splitA]
/-- Pieces, put together again. -/
def joinD (d : Int) : List (List Int) → List Int
  | [] => []
  | [w] => w
  | w :: v :: ws => w ++ d :: joinD d (v :: ws)
theorem split_ne (d : Int) : ∀ (l cur : List Int), splitA d cur l ≠ []
  | [], cur => by simp [splitA]
  | c :: l, cur => by
    rw [splitA]
    split
    · simp
    · exact split_ne d l _
theorem split_join (d : Int) : ∀ (l cur : List Int), joinD d (splitA d cur l) = cur ++ l
  | [], cur => by simp [splitA, joinD]
  | c :: l, cur => by
    rw [splitA]
    split
    · rename_i h
      have ih := split_join d l []
      cases hs : splitA d [] l with
      | nil => exact absurd hs (split_ne d l [])
      | cons v ws =>
        rw [hs] at ih
        rw [joinD, ih, h]
        simp
    · rw [split_join d l]; simp
theorem split_inj {d : Int} {l m : List Int} (h : splitA d [] l = splitA d [] m) : l = m := by
  have h1 := split_join d l []
  have h2 := split_join d m []
  rw [h, h2] at h1
  simpa using h1.symm
theorem split_len (d : Int) : ∀ (l cur : List Int), (splitA d cur l).length ≤ l.length + 1 ∧ 1 ≤ (splitA d cur l).length
  | [], cur => by simp [splitA]
  | c :: l, cur => by
    rw [splitA]
    split
    · have := split_len d l []
      simp; omega
    · have := split_len d l (cur ++ [c])
      simp; omega
theorem split_map (d : Int) (f : Int → Int) (hd : ∀ c, f c = d ↔ c = d) : ∀ (l cur : List Int), splitA d (cur.map f) (l.map f) = (splitA d cur l).map (List.map f)
  | [], cur => rfl
  | c :: l, cur => by
    rw [List.map_cons, splitA, splitA]
    by_cases h : c = d
    · have := (hd c).2 h
      rw [if_pos this, if_pos h, List.map_cons, ← split_map d f hd l []]
      rfl
    · rw [if_neg (fun e => h ((hd c).1 e)), if_neg h, ← split_map d f hd l _]
      simp
theorem cutD_map (d : Int) (f : Int → Int) (hd : ∀ c, f c = d ↔ c = d) : ∀ (l : List Int), cutD d (l.map f) = ((cutD d l).1.map f, (cutD d l).2.1.map f, (cutD d l).2.2)
  | [] => rfl
  | c :: l => by
    rw [List.map_cons, cutD, cutD]
    by_cases h : c = d
    · rw [if_pos ((hd c).2 h), if_pos h]; rfl
    · rw [if_neg (fun e => h ((hd c).1 e)), if_neg h, cutD_map d f hd l]; rfl
theorem hasP_iff {p l : List Int} : hasP p l = true ↔ ∃ r, l = p ++ r := by
  unfold hasP
  rw [decide_eq_true_eq]
  constructor
  · intro h
    exact ⟨l.drop p.length, by
      have := List.take_append_drop p.length l
      rw [h] at this
      exact this.symm⟩
  · rintro ⟨r, rfl⟩
    simp
end Go.Pl
end
section
/- Object identifiers: what chapter 3 says of arcs, their bytes and their text. -/
namespace Go.Pl
open Go.Vc
set_option linter.unusedVariables false
set_option linter.unusedSimpArgs false

def inArc (a : Int) : Bool := decide (0 ≤ a) && decide (a ≤ 2147483647)
def mayO (l : List Int) : Bool :=
  decide (2 ≤ l.length) && decide (l.length ≤ 20) && l.all inArc && (if l.getD 0 0 < 2 then decide (l.getD 1 0 < 40) else if l.getD 0 0 = 2 then decide (l.getD 1 0 ≤ 2147483567) else false)
/-- The bytes of a number ahead of its last one. -/
def hiD : Nat → Int → List Int
  | 0, _ => []
  | k + 1, n => (128 + n / 128 ^ (k + 1) % 128) :: hiD k n
/-- How many there are. -/
def hiN (n : Int) : Nat := if n < 128 then 0 else if n < 16384 then 1 else if n < 2097152 then 2 else if n < 268435456 then 3 else 4
def numO (n : Int) : List Int := hiD (hiN n) n ++ [n % 128]
def encO (l : List Int) : List Int := numO (40 * l.getD 0 0 + l.getD 1 0) ++ (l.drop 2).flatMap numO
def EncO (l : List Int) : List Int × Int := if mayO l then (encO l, 0) else ([], 2)
/-- Decimal digits. -/
def digD (n : Int) : List Int := (Lib.decDigits n.toNat).map fun b => (b.toNat : Int)
def txtO (l : List Int) : List Int := digD (l.getD 0 0) ++ (l.drop 1).flatMap fun a => 46 :: digD a
def TxtO (l : List Int) : List Int × Int := if mayO l then (txtO l, 0) else ([], 2)

theorem may_args {l : List Int} (h : mayO l = true) : 2 ≤ l.length ∧ l.length ≤ 20 ∧ (∀ a ∈ l, 0 ≤ a ∧ a ≤ 2147483647) ∧ 0 ≤ 40 * l.getD 0 0 + l.getD 1 0 ∧ 40 * l.getD 0 0 + l.getD 1 0 ≤ 2147483647 := by
  simp only [mayO, Bool.and_eq_true, decide_eq_true_eq, List.all_eq_true, inArc] at h
  obtain ⟨⟨⟨h1, h2⟩, h3⟩, h4⟩ := h
  have m0 : l.getD 0 0 ∈ l := by
    rw [List.getD_eq_getElem?_getD, List.getElem?_eq_getElem (show 0 < l.length by omega)]
    exact List.getElem_mem _
  have m1 : l.getD 1 0 ∈ l := by
    rw [List.getD_eq_getElem?_getD, List.getElem?_eq_getElem (show 1 < l.length by omega)]
    exact List.getElem_mem _
  have g0 := h3 _ m0
  have g1 := h3 _ m1
  refine ⟨h1, h2, h3, by omega, ?_⟩
  split at h4
  · have := of_decide_eq_true h4; omega
  · split at h4
    · have := of_decide_eq_true h4; omega
    · cases h4

theorem hi_bounds (n : Int) (h : 0 ≤ n) (hn : n ≤ 2147483647) : n / 128 ^ (hiN n) < 128 ∧ (0 < hiN n → 0 < n / 128 ^ hiN n) ∧ hiN n ≤ 4 := by
  unfold hiN
  split
  · exact ⟨by simp; omega, by omega, by omega⟩
  · split
    · exact ⟨by simp; omega, by simp; omega, by omega⟩
    · split
      · exact ⟨by simp; omega, by simp; omega, by omega⟩
      · split
        · exact ⟨by simp; omega, by simp; omega, by omega⟩
        · exact ⟨by simp; omega, by simp; omega, by omega⟩
/-- A count that ends the loop is the count. -/
theorem hi_is {n : Int} {k : Nat} (h : 0 ≤ n) (hk : k ≤ 4) (h1 : n / 128 ^ k < 128) (h2 : 0 < k → 0 < n / 128 ^ k) : hiN n = k := by
  unfold hiN
  have : k = 0 ∨ k = 1 ∨ k = 2 ∨ k = 3 ∨ k = 4 := by omega
  rcases this with rfl | rfl | rfl | rfl | rfl
  · simp at h1; rw [if_pos h1]
  · simp at h1 h2; rw [if_neg (by omega), if_pos (by omega)]
  · simp at h1 h2; rw [if_neg (by omega), if_neg (by omega), if_pos (by omega)]
  · simp at h1 h2; rw [if_neg (by omega), if_neg (by omega), if_neg (by omega), if_pos (by omega)]
  · simp at h1 h2; rw [if_neg (by omega), if_neg (by omega), if_neg (by omega), if_neg (by omega)]
theorem u8_of {k : Nat} (h : k < 256) : ((UInt8.ofNat k).toNat : Int) = k := by
  have : (UInt8.ofNat k).toNat = k := by simp; omega
  rw [this]
theorem dig_small {n : Int} (h0 : 0 ≤ n) (h : n ≤ 9) : digD n = [48 + n] := by
  unfold digD
  rw [Lib.decDigits, dif_pos (by omega)]
  simp only [List.map_cons, List.map_nil]
  rw [u8_of (by omega)]
  congr 1
  omega
theorem dig_big {n : Int} (h : 9 < n) : digD n = digD (n / 10) ++ [48 + n % 10] := by
  unfold digD
  rw [Lib.decDigits, dif_neg (by omega), List.map_append]
  simp only [List.map_cons, List.map_nil]
  rw [u8_of (by omega), show (n / 10).toNat = n.toNat / 10 by omega]
  congr 2
  omega
theorem nDigits_le : ∀ (k u : Nat), u < 10 ^ (k + 1) → Lib.nDigits u ≤ k + 1
  | 0, u, h => by rw [Lib.nDigits_small (by simpa using h)]; exact Nat.le_refl _
  | k + 1, u, h => by
    by_cases h1 : u < 10
    · rw [Lib.nDigits_small h1]; omega
    · rw [Lib.nDigits_big h1]
      have := nDigits_le k (u / 10) (by rw [Nat.pow_succ] at h; omega)
      omega
theorem dig_len {n : Int} (h : n ≤ 2147483647) : (digD n).length ≤ 10 := by
  unfold digD
  rw [List.length_map, Lib.decDigits_length]
  exact nDigits_le 9 _ (by simp; omega)
def lenI (l : List Int) : Nat := l.length
theorem may_len {l : List Int} (h : (l.length : Int) < 2 ∨ 20 < (l.length : Int)) : mayO l = false := by
  cases hm : mayO l with
  | false => rfl
  | true => have := may_args hm; omega
theorem may_in {l : List Int} {i : Nat} (hi : i < l.length) (h : l.getD i 0 < 0 ∨ 2147483647 < l.getD i 0) : mayO l = false := by
  cases hm : mayO l with
  | false => rfl
  | true =>
    have := (may_args hm).2.2.1 (l.getD i 0) (by
      rw [List.getD_eq_getElem?_getD, List.getElem?_eq_getElem hi]
      exact List.getElem_mem _)
    omega
theorem may_rest {l : List Int} (h1 : 2 ≤ l.length) (h2 : l.length ≤ 20) (h3 : ∀ j, j < l.length → 0 ≤ l.getD j 0 ∧ l.getD j 0 ≤ 2147483647) :
    mayO l = (if l.getD 0 0 < 2 then decide (l.getD 1 0 < 40) else if l.getD 0 0 = 2 then decide (l.getD 1 0 ≤ 2147483567) else false) := by
  have ha : l.all inArc = true := by
    rw [List.all_eq_true]
    intro a ha
    obtain ⟨i, hi, e⟩ := List.mem_iff_getElem.1 ha
    have := h3 i hi
    rw [List.getD_eq_getElem?_getD, List.getElem?_eq_getElem hi] at this
    simp only [Option.getD_some, e] at this
    simp only [inArc, Bool.and_eq_true, decide_eq_true_eq]
    exact this
  rw [mayO, decide_eq_true h1, decide_eq_true h2, ha]
  simp
theorem hi_length : ∀ (k : Nat) (n : Int), (hiD k n).length = k
  | 0, _ => rfl
  | k + 1, n => by rw [hiD, List.length_cons, hi_length k n]
theorem hiN_le (n : Int) : hiN n ≤ 4 := by
  unfold hiN
  split
  · omega
  split
  · omega
  split
  · omega
  split <;> omega
theorem num_length (n : Int) : (numO n).length ≤ 5 ∧ 1 ≤ (numO n).length := by
  rw [numO, List.length_append, hi_length]
  have := hiN_le n
  simp
  omega
theorem pow_div (n : Int) (j : Nat) (hj : j ≤ 4) : n / 128 ^ (j + 1) = n / 128 ^ j / 128 := by
  have : j = 0 ∨ j = 1 ∨ j = 2 ∨ j = 3 ∨ j = 4 := by omega
  rcases this with rfl | rfl | rfl | rfl | rfl <;> simp only [Nat.reduceAdd, Int.reducePow] <;> omega
theorem shift_div (n : Int) (j : Nat) (h : 0 ≤ n) (hj : j ≤ 4) : n.fdiv (2 ^ min (7 * (j : Int)).toNat 64) = n / 128 ^ j := by
  have : j = 0 ∨ j = 1 ∨ j = 2 ∨ j = 3 ∨ j = 4 := by omega
  rcases this with rfl | rfl | rfl | rfl | rfl <;> (rw [Int.fdiv_eq_ediv_of_nonneg _ (by decide)]; rfl)
theorem small4 {n : Int} (hn : n ≤ 2147483647) : n / 128 ^ 4 ≤ 7 := by simp only [Int.reducePow]; omega
set_option maxRecDepth 100000 in
theorem or_bits : ∀ k : Fin 256, (BitVec.ofInt 8 (k.1 : Int) ||| BitVec.ofInt 8 128).toNat = 128 + k.1 % 128 := by decide
set_option maxRecDepth 100000 in
theorem and_bits : ∀ k : Fin 256, (BitVec.ofInt 8 (k.1 : Int) &&& BitVec.ofInt 8 127).toNat = k.1 % 128 := by decide
theorem wrap_u8 (m : Int) : IntKind.wrap .u8 m = m % 256 := by simp [IntKind.wrap, IntKind.signed, IntKind.bits]
theorem or128 (m : Int) : IntKind.wrap .u8 ↑(BitVec.ofInt 8 (IntKind.wrap .u8 m) ||| BitVec.ofInt 8 128).toNat = 128 + m % 128 := by
  have h := or_bits ⟨(m % 256).toNat, by omega⟩
  simp only at h
  rw [wrap_u8 m, show m % 256 = ((m % 256).toNat : Int) by omega, h, wrap_u8]
  omega
theorem and127 (m : Int) : IntKind.wrap .u8 ↑(BitVec.ofInt 8 (IntKind.wrap .u8 m) &&& BitVec.ofInt 8 127).toNat = m % 128 := by
  have h := and_bits ⟨(m % 256).toNat, by omega⟩
  simp only at h
  rw [wrap_u8 m, show m % 256 = ((m % 256).toNat : Int) by omega, h, wrap_u8]
  omega
/-- The bytes of the arcs ahead of a place. -/
def encP (l : List Int) (i : Nat) : List Int := numO (40 * l.getD 0 0 + l.getD 1 0) ++ ((l.take i).drop 2).flatMap numO
theorem encP_two (l : List Int) : encP l 2 = numO (40 * l.getD 0 0 + l.getD 1 0) := by
  unfold encP
  rw [List.drop_eq_nil_of_le (by simp; omega)]
  simp
theorem encP_all {l : List Int} {i : Nat} (h : l.length ≤ i) : encP l i = encO l := by
  unfold encP encO
  rw [List.take_of_length_le h]
theorem encP_step {l : List Int} {i : Nat} (h2 : 2 ≤ i) (h : i < l.length) : encP l (i + 1) = encP l i ++ numO (l.getD i 0) := by
  unfold encP
  have e : l.take (i + 1) = l.take i ++ [l.getD i 0] := by
    rw [List.take_add_one, List.getD_eq_getElem?_getD, List.getElem?_eq_getElem h]
    rfl
  rw [e, List.drop_append_of_le_length (by simp; omega), List.flatMap_append]
  simp [List.append_assoc]
theorem encP_len (l : List Int) : ∀ i, (encP l i).length ≤ 5 + 5 * i
  | 0 => by
    have h := num_length (40 * l.getD 0 0 + l.getD 1 0)
    unfold encP
    rw [List.take_zero, List.drop_nil, List.flatMap_nil, List.append_nil]
    omega
  | i + 1 => by
    by_cases h2 : 2 ≤ i
    · by_cases h : i < l.length
      · have := encP_len l i
        have := num_length (l.getD i 0)
        rw [encP_step h2 h, List.length_append]
        omega
      · rw [encP_all (by omega), ← encP_all (l := l) (i := i) (by omega)]
        have := encP_len l i
        omega
    · have : encP l (i + 1) = numO (40 * l.getD 0 0 + l.getD 1 0) := by
        unfold encP
        rw [List.drop_eq_nil_of_le (by simp; omega)]
        simp
      rw [this]
      have := num_length (40 * l.getD 0 0 + l.getD 1 0)
      omega
def itoaD (n : Int) : List Int := if n < 0 then 45 :: digD (-n) else digD n
def joinO : List (List Int) → List Int → List Int
  | [], _ => []
  | x :: r, s => x ++ r.flatMap (fun y => s ++ y)
theorem itoa_bs (n : Int) : bs ⟨(Lib.itoa n).toArray⟩ = itoaD n := by
  rw [bs_u8s, Lib.itoa, itoaD]
  split
  · rw [List.map_cons, digD, show (-n).toNat = n.natAbs by omega]
    rfl
  · rfl
theorem join_bs (xs : List ByteArray) (sep : ByteArray) : bs ⟨(Lib.join (xs.map (·.data.toList)) sep.data.toList).toArray⟩ = joinO (xs.map bs) (bs sep) := by
  rw [bs_u8s]
  cases xs with
  | nil => rfl
  | cons x r =>
    rw [List.map_cons, Lib.join_cons, List.map_append, List.map_cons, joinO, Lib.joinTail]
    congr 1
    induction r with
    | nil => rfl
    | cons y r ih =>
      simp only [List.map_cons, List.flatten_cons, List.map_append, List.flatMap_cons, ih]
      rfl
theorem itoa_len {n : Int} (h0 : -9223372036854775808 ≤ n) (h1 : n ≤ 9223372036854775807) : (Lib.itoa n).length ≤ 21 := by
  unfold Lib.itoa
  split
  · rw [List.length_cons, Lib.decDigits_length]
    have := nDigits_le 19 n.natAbs (by simp; omega)
    omega
  · rw [Lib.decDigits_length]
    have := nDigits_le 19 n.toNat (by simp; omega)
    omega
theorem itoa_pos {n : Int} (h : 0 ≤ n) : itoaD n = digD n := by rw [itoaD, if_neg (by omega)]
def txtP (l : List Int) (i : Nat) : List Int := digD (l.getD 0 0) ++ ((l.take i).drop 1).flatMap fun a => 46 :: digD a
theorem take_snocO {l : List Int} {i : Nat} (h : i < l.length) : l.take (i + 1) = l.take i ++ [l.getD i 0] := by
  rw [List.take_add_one, List.getD_eq_getElem?_getD, List.getElem?_eq_getElem h]
  rfl
theorem txtP_one (l : List Int) : txtP l 1 = digD (l.getD 0 0) := by
  unfold txtP
  rw [List.drop_eq_nil_of_le (by simp; omega)]
  simp
theorem txtP_all {l : List Int} {i : Nat} (h : l.length ≤ i) : txtP l i = txtO l := by
  unfold txtP txtO
  rw [List.take_of_length_le h]
theorem txtP_step {l : List Int} {i : Nat} (h2 : 1 ≤ i) (h : i < l.length) : txtP l (i + 1) = txtP l i ++ [46] ++ digD (l.getD i 0) := by
  unfold txtP
  rw [take_snocO h, List.drop_append_of_le_length (by simp; omega), List.flatMap_append]
  simp [List.append_assoc]
theorem txtP_len {l : List Int} (hl : ∀ i, i < l.length → l.getD i 0 ≤ 2147483647) : ∀ i, 1 ≤ i → i ≤ l.length → (txtP l i).length ≤ 11 * i
  | 0, h, _ => by omega
  | i + 1, _, h => by
    by_cases h1 : 1 ≤ i
    · rw [txtP_step h1 (by omega)]
      have := txtP_len hl i h1 (by omega)
      have := dig_len (hl i (by omega))
      simp only [List.length_append, List.length_singleton]
      omega
    · have e : i = 0 := by omega
      subst e
      rw [txtP_one]
      have := dig_len (hl 0 (by omega))
      omega
theorem join_txt {l : List Int} (h : 1 ≤ l.length) : joinO (l.map digD) [46] = txtO l := by
  cases l with
  | nil => simp at h
  | cons a r =>
    rw [List.map_cons, joinO, txtO]
    simp only [List.getD_cons_zero, List.drop_succ_cons, List.drop_zero, List.flatMap_map]
    rfl
/-- What reading a text gives. -/
def parseO (s : List Int) (l : List Int) (e : Int) : Prop := (e = 0 ∧ mayO l = true ∧ txtO l = s) ∨ (e = 33 ∧ l = [] ∧ ∀ m, mayO m = true → txtO m ≠ s)
noncomputable def parB (s : List Int) (l : List Int) (e : Int) : Bool := @decide (parseO s l e) (Classical.propDecidable _)
theorem parB_iff {s l : List Int} {e : Int} : parB s l e = true ↔ parseO s l e := by unfold parB; exact @decide_eq_true_iff _ (Classical.propDecidable _)
theorem dig_bytes : ∀ (k : Nat) {n : Int}, 0 ≤ n → n ≤ k → ∀ b ∈ digD n, 48 ≤ b ∧ b ≤ 57
  | 0, n, h0, h1, b, hb => by
    rw [dig_small h0 (by omega)] at hb
    have := List.mem_singleton.1 hb
    omega
  | k + 1, n, h0, h1, b, hb => by
    by_cases h : 9 < n
    · rw [dig_big h] at hb
      rcases List.mem_append.1 hb with hb | hb
      · exact dig_bytes k (by omega) (by omega) b hb
      · have := List.mem_singleton.1 hb
        omega
    · rw [dig_small h0 (by omega)] at hb
      have := List.mem_singleton.1 hb
      omega
theorem dig_no46 {n : Int} (h : 0 ≤ n) : (46 : Int) ∉ digD n := fun hb => by
  have := dig_bytes n.toNat h (by omega) 46 hb
  omega
theorem cut_eq : ∀ {x y u v : List Int}, (46 : Int) ∉ x → (46 : Int) ∉ y → x ++ 46 :: u = y ++ 46 :: v → x = y ∧ u = v
  | [], [], _, _, _, _, h => ⟨rfl, (List.cons.inj h).2⟩
  | [], b :: y, _, _, _, hy, h => absurd (List.cons.inj h).1 (fun e => hy (by rw [e]; exact List.mem_cons_self ..))
  | a :: x, [], _, _, hx, _, h => absurd (List.cons.inj h).1 (fun e => hx (by rw [← e]; exact List.mem_cons_self ..))
  | a :: x, b :: y, u, v, hx, hy, h => by
    obtain ⟨e, h2⟩ := List.cons.inj h
    obtain ⟨h3, h4⟩ := cut_eq (fun hm => hx (List.mem_cons_of_mem _ hm)) (fun hm => hy (List.mem_cons_of_mem _ hm)) h2
    exact ⟨by rw [e, h3], h4⟩
theorem cut_no {x y v : List Int} (hx : (46 : Int) ∉ x) (h : x = y ++ 46 :: v) : False := hx (by rw [h]; simp)
theorem join_two (x y : List Int) (r : List (List Int)) : joinO (x :: y :: r) [46] = x ++ 46 :: joinO (y :: r) [46] := by
  simp [joinO]
theorem join_inj : ∀ {X Y : List (List Int)}, X ≠ [] → Y ≠ [] → (∀ x ∈ X, (46 : Int) ∉ x) → (∀ y ∈ Y, (46 : Int) ∉ y) → joinO X [46] = joinO Y [46] → X = Y
  | [], _, hX, _, _, _, _ => absurd rfl hX
  | _, [], _, hY, _, _, _ => absurd rfl hY
  | [x], [y], _, _, _, _, h => by simpa [joinO] using h
  | [x], y :: y2 :: r, _, _, hx, _, h => by
    rw [join_two] at h
    exact (cut_no (hx x (by simp)) (by simpa [joinO] using h)).elim
  | x :: x2 :: r, [y], _, _, _, hy, h => by
    rw [join_two] at h
    exact (cut_no (hy y (by simp)) (by simpa [joinO] using h.symm)).elim
  | x :: x2 :: r, y :: y2 :: q, _, _, hx, hy, h => by
    rw [join_two, join_two] at h
    obtain ⟨e1, e2⟩ := cut_eq (hx x (by simp)) (hy y (by simp)) h
    rw [e1, join_inj (by simp) (by simp) (fun z hz => hx z (List.mem_cons_of_mem _ hz)) (fun z hz => hy z (List.mem_cons_of_mem _ hz)) e2]
/-- The texts of the arcs, each with a dot behind it, and a rest. -/
def ledO (X : List (List Int)) (r : List Int) : List Int := X.flatMap (fun x => x ++ [46]) ++ r
theorem led_join : ∀ (X : List (List Int)) (r : List Int), ledO X r = joinO (X ++ [r]) [46]
  | [], r => by simp [ledO, joinO]
  | [x], r => by simp [ledO, joinO]
  | x :: y :: X, r => by
    have ih := led_join (y :: X) r
    rw [List.cons_append, List.cons_append, join_two, ← List.cons_append, ← ih]
    simp [ledO]
theorem from_snoc : ∀ (l : List UInt8) (acc : Nat) (b : UInt8), Lib.decFrom acc (l ++ [b]) = (Lib.decFrom acc l).bind fun n => (Lib.digitVal b).map fun d => n * 10 + d
  | [], acc, b => by
    simp only [List.nil_append, Lib.decFrom, Option.bind_some]
    cases Lib.digitVal b <;> rfl
  | a :: l, acc, b => by
    simp only [List.cons_append, Lib.decFrom]
    cases Lib.digitVal a with
    | none => rfl
    | some d => exact from_snoc l _ b
theorem digit_of {k : Nat} (h : k < 10) : Lib.digitVal (UInt8.ofNat (48 + k)) = some k := by
  have e : (UInt8.ofNat (48 + k)).toNat = 48 + k := by simp; omega
  rw [Lib.digitVal, e, if_pos (by omega)]
  congr 1
  omega
theorem dec_digits (u : Nat) : Lib.decFrom 0 (Lib.decDigits u) = some u := by
  induction u using Nat.strongRecOn with
  | _ u ih =>
    by_cases h : u < 10
    · rw [Lib.decDigits, dif_pos h]
      simp only [Lib.decFrom, digit_of h]
      simp
    · rw [Lib.decDigits, dif_neg h, from_snoc, ih (u / 10) (by omega), digit_of (by omega)]
      simp only [Option.bind_some, Option.map_some]
      congr 1
      omega
theorem u8s_map (l : List UInt8) : u8s (l.map fun b => (b.toNat : Int)) = l := by
  unfold u8s
  rw [List.map_map]
  conv => rhs; rw [← List.map_id l]
  refine List.map_congr_left fun b _ => ?_
  simp
theorem atoi_dig {n : Int} (h0 : 0 ≤ n) (h1 : n ≤ 2147483647) : Lib.atoiAll (u8s (digD n)) = .ok n := by
  have hl := dig_len h1
  have hb := dig_bytes n.toNat h0 (by omega)
  have hd := dec_digits n.toNat
  unfold digD at hl hb ⊢
  rw [u8s_map]
  rw [List.length_map] at hl
  rw [Lib.atoiAll_short _ (by omega)]
  have hne := Lib.decDigits_length n.toNat
  have hp := Lib.nDigits_pos n.toNat
  revert hb hd hne
  generalize Lib.decDigits n.toNat = L
  intro hb hd hne
  cases L with
  | nil => simp at hne; omega
  | cons b r =>
    have hb0 := hb (b.toNat : Int) (by simp)
    have e1 : (b == 45) = false := by
      cases he : b == 45 with
      | false => rfl
      | true => rw [eq_of_beq he] at hb0; exact absurd hb0.1 (by decide)
    have e2 : (b == 43) = false := by
      cases he : b == 43 with
      | false => rfl
      | true => rw [eq_of_beq he] at hb0; exact absurd hb0.1 (by decide)
    simp only [Lib.atoi, e1, e2, Bool.false_eq_true, if_false, Lib.decNat, List.isEmpty_cons, hd, Option.map_some, Lib.NumEnd.ofOption]
    congr 1
    omega
/-- The first place of a byte, and what lies about it. -/
theorem idx_none {l : List Int} {c : Int} (h : idxB l c < 0) : c ∉ l := fun hm => by
  have := (idxB_mem l c).2 hm
  omega
theorem idx_some : ∀ {l : List Int} {c : Int}, 0 ≤ idxB l c → c ∉ l.take (idxB l c).toNat ∧ l = l.take (idxB l c).toNat ++ c :: l.drop ((idxB l c).toNat + 1)
  | [], c, h => by simp [idxB] at h
  | a :: l, c, h => by
    rw [idxB] at h ⊢
    by_cases e : a = c
    · rw [if_pos e]
      simp [e]
    · rw [if_neg e] at h ⊢
      by_cases e2 : idxB l c < 0
      · rw [if_pos e2] at h; omega
      · rw [if_neg e2]
        obtain ⟨h1, h2⟩ := idx_some (l := l) (c := c) (by omega)
        rw [show (idxB l c + 1).toNat = (idxB l c).toNat + 1 by omega, List.take_succ_cons, List.drop_succ_cons]
        refine ⟨fun hm => ?_, by rw [List.cons_append, ← h2]⟩
        rcases List.mem_cons.1 hm with hm | hm
        · exact e hm.symm
        · exact h1 hm
theorem itoa_no46 (n : Int) : (46 : Int) ∉ itoaD n := by
  unfold itoaD
  split
  · intro hm
    rcases List.mem_cons.1 hm with hm | hm
    · cases hm
    · exact dig_no46 (by omega) hm
  · exact dig_no46 (by omega)
theorem dig_inj {a b : Int} (ha : 0 ≤ a) (hb : 0 ≤ b) (h : digD a = digD b) : a = b := by
  have h1 := congrArg u8s h
  unfold digD at h1
  rw [u8s_map, u8s_map] at h1
  have h2 := congrArg (Lib.decFrom 0) h1
  rw [dec_digits, dec_digits] at h2
  have := Option.some.inj h2
  omega
theorem word_inj {m a : Int} (hm : 0 ≤ m) (h : digD m = itoaD a) : a = m := by
  unfold itoaD at h
  split at h
  · have := dig_bytes m.toNat hm (by omega) 45 (by rw [h]; exact List.mem_cons_self ..)
    omega
  · exact dig_inj (by omega) hm h.symm
theorem words_inj : ∀ {m l : List Int}, (∀ a ∈ m, 0 ≤ a) → m.map digD = l.map itoaD → m = l
  | [], [], _, _ => rfl
  | [], _ :: _, _, h => by cases h
  | _ :: _, [], _, h => by cases h
  | a :: m, b :: l, hm, h => by
    rw [List.map_cons, List.map_cons, List.cons.injEq] at h
    rw [word_inj (hm a (by simp)) h.1, words_inj (fun x hx => hm x (List.mem_cons_of_mem _ hx)) h.2]
/-- The words of a list's text. -/
theorem words_of {m : List Int} {s : List Int} {X : List (List Int)} {r : List Int} (hm : mayO m = true) (ht : txtO m = s) (hs : s = ledO X r) (hX : ∀ x ∈ X, (46 : Int) ∉ x) (hr : (46 : Int) ∉ r) : m.map digD = X ++ [r] := by
  obtain ⟨h1, _, h3, _⟩ := may_args hm
  rw [← ht, led_join, ← join_txt (by omega)] at hs
  refine join_inj (by intro e; rw [List.map_eq_nil_iff] at e; rw [e] at h1; simp at h1) (by simp) (fun x hx => ?_) (fun x hx => ?_) hs
  · obtain ⟨a, ha, rfl⟩ := List.mem_map.1 hx
    exact dig_no46 (h3 a ha).1
  · rcases List.mem_append.1 hx with hx | hx
    · exact hX x hx
    · rw [List.mem_singleton.1 hx]; exact hr
theorem split_ex : ∀ r : List Int, ∃ (Y : List (List Int)) (r' : List Int), r = ledO Y r' ∧ (∀ y ∈ Y, (46 : Int) ∉ y) ∧ (46 : Int) ∉ r'
  | [] => ⟨[], [], rfl, (fun y hy => by cases hy), (fun h => by cases h)⟩
  | a :: l => by
    obtain ⟨Y, r', e, h1, h2⟩ := split_ex l
    by_cases ha : a = 46
    · refine ⟨[] :: Y, r', by rw [e, ha]; rfl, fun y hy => ?_, h2⟩
      rcases List.mem_cons.1 hy with rfl | hy
      · intro hm; cases hm
      · exact h1 y hy
    · have hno : ∀ x : List Int, (46 : Int) ∉ x → (46 : Int) ∉ a :: x := fun x hx hm => by
        rcases List.mem_cons.1 hm with hm | hm
        · exact ha hm.symm
        · exact hx hm
      cases Y with
      | nil => exact ⟨[], a :: r', by rw [e]; rfl, (fun y hy => by cases hy), hno _ h2⟩
      | cons y Y =>
        refine ⟨(a :: y) :: Y, r', by rw [e]; simp [ledO], fun z hz => ?_, h2⟩
        rcases List.mem_cons.1 hz with rfl | hz
        · exact hno _ (h1 y (by simp))
        · exact h1 z (List.mem_cons_of_mem _ hz)
theorem led_step (X : List (List Int)) (w r : List Int) : ledO X (w ++ 46 :: r) = ledO (X ++ [w]) r := by
  simp [ledO, List.append_assoc]
theorem led_app (X Y : List (List Int)) (r : List Int) : ledO X (ledO Y r) = ledO (X ++ Y) r := by
  simp [ledO, List.append_assoc]
/-- A word of a list's text is an arc's. -/
theorem word_at {m s w t : List Int} {X : List (List Int)} (hm : mayO m = true) (ht : txtO m = s) (hs : s = ledO X (w ++ t)) (htt : t = [] ∨ ∃ r, t = 46 :: r) (hX : ∀ x ∈ X, (46 : Int) ∉ x) (hw : (46 : Int) ∉ w) :
    ∃ a, 0 ≤ a ∧ a ≤ 2147483647 ∧ w = digD a ∧ X.length + 1 ≤ m.length := by
  have h3 := (may_args hm).2.2.1
  have key : ∃ Z, m.map digD = X ++ w :: Z := by
    rcases htt with rfl | ⟨r, rfl⟩
    · rw [List.append_nil] at hs
      exact ⟨[], words_of hm ht hs hX hw⟩
    · obtain ⟨Y, r', rfl, h1, h2⟩ := split_ex r
      rw [led_step, led_app] at hs
      have := words_of hm ht hs (fun x hx => by
        rcases List.mem_append.1 hx with hx | hx
        · rcases List.mem_append.1 hx with hx | hx
          · exact hX x hx
          · rw [List.mem_singleton.1 hx]; exact hw
        · exact h1 x hx) h2
      exact ⟨Y ++ [r'], by rw [this]; simp⟩
  obtain ⟨Z, hZ⟩ := key
  have hmem : w ∈ m.map digD := by rw [hZ]; simp
  obtain ⟨a, ha, e⟩ := List.mem_map.1 hmem
  have hl := congrArg List.length hZ
  rw [List.length_map, List.length_append, List.length_cons] at hl
  exact ⟨a, (h3 a ha).1, (h3 a ha).2, e.symm, by omega⟩
/-- The number that digits spell; of none: 0. -/
def valD (w : List Int) : Int := w.foldl (fun n c => 10 * n + (c - 48)) 0
theorem val_nil : valD [] = 0 := rfl
theorem val_snoc (w : List Int) (c : Int) : valD (w ++ [c]) = 10 * valD w + (c - 48) := by simp [valD, List.foldl_append]
theorem val_dig : ∀ (k : Nat) {n : Int}, 0 ≤ n → n ≤ k → valD (digD n) = n
  | 0, n, h0, h1 => by rw [dig_small h0 (by omega)]; simp [valD]; omega
  | k + 1, n, h0, h1 => by
    by_cases h : 9 < n
    · rw [dig_big h, val_snoc, val_dig k (by omega) (by omega)]
      omega
    · rw [dig_small h0 (by omega)]
      simp [valD]
      omega
theorem val_ge : ∀ (t w : List Int), 0 ≤ valD w → (∀ c ∈ t, 48 ≤ c) → valD w ≤ valD (w ++ t)
  | [], w, _, _ => by simp
  | c :: t, w, h, hc => by
    have h1 := hc c (by simp)
    have h2 := val_snoc w c
    have h3 := val_ge t (w ++ [c]) (by omega) (fun x hx => hc x (List.mem_cons_of_mem _ hx))
    rw [List.append_assoc] at h3
    have h3 : valD (w ++ [c]) ≤ valD (w ++ c :: t) := h3
    omega
end Go.Pl
end
