/- Texts: places of bytes and of texts in texts. -/
import Derived.Test.YtkdffofjnjamlaaDoorZVcPlain
import Derived.Lib.Bytealg
import Derived.Lib.IndexMore
set_option linter.unusedVariables false
set_option linter.unusedSimpArgs false
namespace Go.Pl
open Go.Vc
open Go.RowKit

/-- A letter, made small. -/
def smallD (c : Int) : Int := if 65 ≤ c ∧ c ≤ 90 then c + 32 else c
/-- The first place of a byte. -/
def idxB : List Int → Int → Int
  | [], _ => -1
  | a :: l, c => if a = c then 0 else if idxB l c < 0 then -1 else idxB l c + 1
/-- The first place of a text. -/
def idxS : List Int → List Int → Int
  | [], sub => if sub.isEmpty then 0 else -1
  | a :: l, sub => if sub.isPrefixOf (a :: l) then 0 else if idxS l sub < 0 then -1 else idxS l sub + 1
/-- A text around the first place of a byte. -/
def cutD (d : Int) : List Int → List Int × List Int × Bool
  | [] => ([], [], false)
  | c :: l => if c = d then ([], l, true) else (c :: (cutD d l).1, (cutD d l).2.1, (cutD d l).2.2)
/-- Does a text begin so? -/
def hasP (p l : List Int) : Bool := decide (l.take p.length = p)
/-- The pieces of a text between a byte. -/
def splitA (d : Int) (cur : List Int) : List Int → List (List Int)
  | [] => [cur]
  | c :: l => if c = d then cur :: splitA d [] l else splitA d (cur ++ [c]) l

theorem idxB_ge : ∀ (l : List Int) (c : Int), -1 ≤ idxB l c ∧ idxB l c < l.length
  | [], _ => by simp [idxB]
  | a :: l, c => by
    have := idxB_ge l c
    rw [idxB, List.length_cons]
    split
    · omega
    · split <;> omega
theorem idxB_mem : ∀ (l : List Int) (c : Int), 0 ≤ idxB l c ↔ c ∈ l
  | [], _ => by simp [idxB]
  | a :: l, c => by
    have ih := idxB_mem l c
    have := idxB_ge l c
    rw [idxB]
    split
    · rename_i h; simp [h]
    · rename_i h
      have hc : c ∈ a :: l ↔ c ∈ l := by simp [List.mem_cons]; intro e; exact absurd e.symm h
      rw [hc, ← ih]
      split <;> omega
theorem idxS_one : ∀ (l : List Int) (c : Int), idxS l [c] = idxB l c
  | [], _ => rfl
  | a :: l, c => by
    have ih := idxS_one l c
    have h : [c].isPrefixOf (a :: l) = decide (a = c) := by
      have : (c == a) = decide (a = c) := by
        by_cases h : a = c
        · subst h; simp
        · rw [decide_eq_false h]; simpa using fun e => h e.symm
      simp [List.isPrefixOf, this]
    rw [idxS, idxB, ih, h]
    by_cases h : a = c <;> simp [h]
theorem idxS_ge : ∀ (l m : List Int), -1 ≤ idxS l m ∧ idxS l m ≤ l.length
  | [], m => by rw [idxS]; split <;> simp
  | a :: l, m => by
    have := idxS_ge l m
    rw [idxS, List.length_cons]
    split
    · omega
    · split <;> omega
theorem u8_inj {a b : Int} (ha : 0 ≤ a ∧ a ≤ 255) (hb : 0 ≤ b ∧ b ≤ 255) : a.toNat.toUInt8 = b.toNat.toUInt8 ↔ a = b := by
  constructor
  · intro h
    have := congrArg UInt8.toNat h
    simp at this
    omega
  · intro h; rw [h]
theorem u8s_prefix : ∀ (m l : List Int), Bys m → Bys l → (u8s m).isPrefixOf (u8s l) = m.isPrefixOf l
  | [], l, _, _ => by simp [u8s]
  | b :: m, [], _, _ => rfl
  | b :: m, a :: l, hm, hl => by
    have ih := u8s_prefix m l (fun x hx => hm x (List.mem_cons_of_mem _ hx)) (fun x hx => hl x (List.mem_cons_of_mem _ hx))
    have hb := hm b (by simp)
    have ha := hl a (by simp)
    simp only [u8s, List.map_cons, List.isPrefixOf] at ih ⊢
    rw [ih]
    congr 1
    by_cases h : b = a
    · subst h; simp
    · rw [beq_eq_false_iff_ne.2 h, beq_eq_false_iff_ne.2 (fun e => h ((u8_inj hb ha).1 e))]
theorem idxS_lib : ∀ (l m : List Int), Bys l → Bys m → Lib.index (u8s l) (u8s m) = idxS l m
  | [], m, _, _ => by
    cases m <;> rfl
  | a :: l, m, hl, hm => by
    have ih := idxS_lib l m (fun x hx => hl x (List.mem_cons_of_mem _ hx)) hm
    have hp := u8s_prefix m (a :: l) hm hl
    have hg := idxS_ge l m
    simp only [u8s, List.map_cons] at ih hp ⊢
    rw [Lib.index, idxS, hp, ih]
    by_cases h1 : m.isPrefixOf (a :: l) = true
    · rw [if_pos h1, if_pos h1]
    · rw [if_neg h1, if_neg h1]
      by_cases h2 : idxS l m = -1
      · rw [if_pos (by simpa using h2), if_pos (by omega)]
      · rw [if_neg (by simpa using h2), if_neg (by omega)]
theorem idxB_lib : ∀ (l : List UInt8) (c : Int), 0 ≤ c ∧ c ≤ 255 → Lib.indexByte l c.toNat.toUInt8 = idxB (l.map fun b => (b.toNat : Int)) c
  | [], _, _ => rfl
  | b :: l, c, h => by
    have ih := idxB_lib l c h
    have hr := Lib.indexByte_ge l c.toNat.toUInt8
    have hb : (b == c.toNat.toUInt8) = true ↔ (b.toNat : Int) = c := by
      rw [beq_iff_eq, ← UInt8.toNat_inj]
      have : (c.toNat.toUInt8).toNat = c.toNat := by simp; omega
      rw [this]
      omega
    unfold Lib.indexByte
    rw [List.map_cons, idxB, ← ih]
    by_cases h1 : (b.toNat : Int) = c
    · rw [if_pos (hb.2 h1), if_pos h1]
    · rw [if_neg (fun hh => h1 (hb.1 hh)), if_neg h1]
      by_cases h2 : Lib.indexByte l c.toNat.toUInt8 = -1
      · rw [if_pos (by simpa using h2), if_pos (by omega)]
      · rw [if_neg (by simpa using h2), if_neg (by omega)]

theorem cutD_idx : ∀ (l : List Int) (d : Int), cutD d l = if 0 ≤ idxB l d then (l.take (idxB l d).toNat, l.drop ((idxB l d).toNat + 1), true) else (l, [], false)
  | [], _ => rfl
  | c :: l, d => by
    have ih := cutD_idx l d
    have hge := idxB_ge l d
    rw [cutD, idxB]
    by_cases h : c = d
    · rw [if_pos h, if_pos h]; rfl
    · rw [if_neg h, if_neg h, ih]
      by_cases h1 : idxB l d < 0
      · rw [if_pos h1, if_neg (show ¬ (0 : Int) ≤ -1 by omega), if_neg (show ¬ 0 ≤ idxB l d by omega)]
      · rw [if_neg h1, if_pos (show 0 ≤ idxB l d + 1 by omega), if_pos (show 0 ≤ idxB l d by omega), show (idxB l d + 1).toNat = (idxB l d).toNat + 1 by omega]
        simp
theorem cutD_len (l : List Int) (d : Int) : (cutD d l).1.length ≤ l.length ∧ (cutD d l).2.1.length ≤ l.length := by
  rw [cutD_idx]
  split
  · simp; omega
  · simp
theorem cutD_mem : ∀ (l : List Int) (d : Int), d ∉ (cutD d l).1
  | [], _ => by simp [cutD]
  | c :: l, d => by
    have := cutD_mem l d
    rw [cutD]
    split
    · simp
    · rename_i h
      simp only [List.mem_cons, not_or]
      exact ⟨fun e => h e.symm, this⟩
theorem cutD_join : ∀ (l : List Int) (d : Int), l = (cutD d l).1 ++ (if (cutD d l).2.2 then d :: (cutD d l).2.1 else [])
  | [], _ => rfl
  | c :: l, d => by
    have ih := cutD_join l d
    rw [cutD]
    split
    · rename_i h; simp [h]
    · simp only [List.cons_append]
      rw [← ih]
theorem cutD_rest {l : List Int} {d : Int} (h : (cutD d l).2.2 = false) : (cutD d l).2.1 = [] ∧ (cutD d l).1 = l := by
  have hj := cutD_join l d
  rw [h] at hj
  refine ⟨?_, by simpa using hj.symm⟩
  rw [cutD_idx] at h ⊢
  split at h
  · cases h
  · rw [if_neg (by assumption)]
theorem cutD_app : ∀ (l m : List Int) (d : Int), d ∉ l → cutD d (l ++ d :: m) = (l, m, true)
  | [], m, d, _ => by simp [cutD]
  | c :: l, m, d, h => by
    simp only [List.mem_cons, not_or] at h
    rw [List.cons_append, cutD, if_neg (fun e => h.1 e.symm), cutD_app l m d h.2]
theorem cutD_none {l : List Int} {d : Int} (h : d ∉ l) : cutD d l = (l, [], false) := by
  have : ¬ 0 ≤ idxB l d := fun e => h ((idxB_mem l d).1 e)
  rw [cutD_idx, if_neg this]

theorem split_app : ∀ (w cur r : List Int) (d : Int), d ∉ w → splitA d cur (w ++ r) = splitA d (cur ++ w) r
  | [], cur, r, _, _ => by simp
  | c :: w, cur, r, d, h => by
    simp only [List.mem_cons, not_or] at h
    rw [List.cons_append, splitA, if_neg (fun e => h.1 e.symm), split_app w _ r d h.2]
    simp
theorem split_cut (d : Int) (l : List Int) : splitA d [] l = (cutD d l).1 :: (if (cutD d l).2.2 then splitA d [] (cutD d l).2.1 else []) := by
  have hj := cutD_join l d
  have hm := cutD_mem l d
  generalize cutD d l = c at hj hm ⊢
  obtain ⟨a, b, f⟩ := c
  simp only at hj hm ⊢
  subst hj
  rw [split_app _ _ _ _ hm]
  cases f
  · simp [splitA]
  · simp [splitA]
/-- Pieces, put together again. -/
def joinD (d : Int) : List (List Int) → List Int
  | [] => []
  | [w] => w
  | w :: v :: ws => w ++ d :: joinD d (v :: ws)
theorem split_ne (d : Int) : ∀ (l cur : List Int), splitA d cur l ≠ []
  | [], cur => by simp [splitA]
  | c :: l, cur => by
    rw [splitA]
    split
    · simp
    · exact split_ne d l _
theorem split_join (d : Int) : ∀ (l cur : List Int), joinD d (splitA d cur l) = cur ++ l
  | [], cur => by simp [splitA, joinD]
  | c :: l, cur => by
    rw [splitA]
    split
    · rename_i h
      have ih := split_join d l []
      cases hs : splitA d [] l with
      | nil => exact absurd hs (split_ne d l [])
      | cons v ws =>
        rw [hs] at ih
        rw [joinD, ih, h]
        simp
    · rw [split_join d l]; simp
theorem split_inj {d : Int} {l m : List Int} (h : splitA d [] l = splitA d [] m) : l = m := by
  have h1 := split_join d l []
  have h2 := split_join d m []
  rw [h, h2] at h1
  simpa using h1.symm
theorem split_len (d : Int) : ∀ (l cur : List Int), (splitA d cur l).length ≤ l.length + 1 ∧ 1 ≤ (splitA d cur l).length
  | [], cur => by simp [splitA]
  | c :: l, cur => by
    rw [splitA]
    split
    · have := split_len d l []
      simp; omega
    · have := split_len d l (cur ++ [c])
      simp; omega
theorem split_map (d : Int) (f : Int → Int) (hd : ∀ c, f c = d ↔ c = d) : ∀ (l cur : List Int), splitA d (cur.map f) (l.map f) = (splitA d cur l).map (List.map f)
  | [], cur => rfl
  | c :: l, cur => by
    rw [List.map_cons, splitA, splitA]
    by_cases h : c = d
    · have := (hd c).2 h
      rw [if_pos this, if_pos h, List.map_cons, ← split_map d f hd l []]
      rfl
    · rw [if_neg (fun e => h ((hd c).1 e)), if_neg h, ← split_map d f hd l _]
      simp
theorem cutD_map (d : Int) (f : Int → Int) (hd : ∀ c, f c = d ↔ c = d) : ∀ (l : List Int), cutD d (l.map f) = ((cutD d l).1.map f, (cutD d l).2.1.map f, (cutD d l).2.2)
  | [] => rfl
  | c :: l => by
    rw [List.map_cons, cutD, cutD]
    by_cases h : c = d
    · rw [if_pos ((hd c).2 h), if_pos h]; rfl
    · rw [if_neg (fun e => h ((hd c).1 e)), if_neg h, cutD_map d f hd l]; rfl
theorem hasP_iff {p l : List Int} : hasP p l = true ↔ ∃ r, l = p ++ r := by
  unfold hasP
  rw [decide_eq_true_eq]
  constructor
  · intro h
    exact ⟨l.drop p.length, by
      have := List.take_append_drop p.length l
      rw [h] at this
      exact this.symm⟩
  · rintro ⟨r, rfl⟩
    simp
end Go.Pl
