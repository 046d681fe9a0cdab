import Derived.Test.YtiofbnlbfmbodaaGreatDoorZV07
set_option linter.unusedVariables false
set_option linter.unusedSimpArgs false
namespace Go.Pl
open Go.Vc
set_option linter.unusedVariables false
set_option linter.unusedSimpArgs false
abbrev EltT : Type := Int × List Int
abbrev ET : Kd := .pair (.int .i64) (.sl (.int .u8))
abbrev edft : EltT := ((0 : Int), ([] : List Int))
def lenF (l : List (List Int)) : Nat := l.flatten.length
def lenB (l : List Int) : Nat := l.length
def isTagD (t : Int) : Bool := decide (0 ≤ t) && (decide (t ≤ 255) && decide (t % 32 ≠ 31))
def lngD (n : Int) : List Int := if n < 128 then [n] else if n < 256 then [129, n] else if n < 65536 then [130, n / 256, n % 256] else [131, n / 65536, n / 256 % 256, n % 256]
def putB (x : EltT) : List Int := x.1 :: (lngD x.2.length ++ x.2)
def PutD (b : List Int) (t : Int) (c : List Int) : List Int × Int := if isTagD t = false then ([], 2) else if 16777215 < c.length then ([], 3) else (b ++ putB (t, c), 0)
def numB (l : List Int) : Int := l.foldl (fun n x => 256 * n + x) 0
def headK (b : List Int) : Int × Int × Int × Int :=
  if b = [] then (0, 0, 0, 10) else if isTagD (b.getD 0 0) = false then (0, 0, 0, 11) else if b.length = 1 then (0, 0, 0, 10)
  else if b.getD 1 0 < 128 then (b.getD 0 0, 2, b.getD 1 0, 0)
  else if b.getD 1 0 = 128 ∨ 131 < b.getD 1 0 ∨ (2 < b.length ∧ b.getD 2 0 = 0) then (0, 0, 0, 12)
  else if (b.length : Int) < 2 + (b.getD 1 0 - 128) then (0, 0, 0, 10)
  else if numB ((b.drop 2).take (b.getD 1 0 - 128).toNat) < 128 then (0, 0, 0, 12)
  else (b.getD 0 0, 2 + (b.getD 1 0 - 128), numB ((b.drop 2).take (b.getD 1 0 - 128).toNat), 0)
def takeD (b : List Int) : EltT × Int × Int :=
  if (headK b).2.2.2 ≠ 0 then ((0, []), 0, (headK b).2.2.2) else if (b.length : Int) - (headK b).2.1 < (headK b).2.2.1 then ((0, []), 0, 10) else (((headK b).1, (b.drop (headK b).2.1.toNat).take (headK b).2.2.1.toNat), (headK b).2.1 + (headK b).2.2.1, 0)
def oneD (b : List Int) : EltT × Int := if (takeD b).2.2 = 0 ∧ (takeD b).2.1 < b.length then ((0, []), 13) else ((takeD b).1, (takeD b).2.2)
def rowR (b : List Int) : Nat → Int → List (Int × EltT) × Int × Int
  | 0, at_ => ([], at_, 0)
  | k + 1, at_ => if at_ < b.length then (if (takeD (b.drop at_.toNat)).2.2 ≠ 0 then ([], at_, (takeD (b.drop at_.toNat)).2.2) else
      ((at_, (takeD (b.drop at_.toNat)).1) :: (rowR b k (at_ + (takeD (b.drop at_.toNat)).2.1)).1, (rowR b k (at_ + (takeD (b.drop at_.toNat)).2.1)).2)) else ([], at_, 0)
def rowD (b : List Int) : List (Int × EltT) × Int × Int := rowR b b.length 0
def allD (b : List Int) : List EltT × Int × Int := if (rowD b).2.2 ≠ 0 then ([], (rowD b).2.1, (rowD b).2.2) else ((rowD b).1.map (·.2), (rowD b).2.1, 0)
def sizeD (n : Int) : Int := if n < 0 ∨ 16777215 < n then 0 else 1 + (lngD n).length
theorem tag_range {t : Int} (h : isTagD t = true) : 0 ≤ t ∧ t ≤ 255 ∧ t % 32 ≠ 31 := by
  simp only [isTagD, Bool.and_eq_true, decide_eq_true_eq] at h
  exact h
set_option maxRecDepth 100000 in
theorem and31_fin : ∀ k : Fin 256, (BitVec.ofInt 64 (k.1 : Int) &&& BitVec.ofInt 64 31).toNat = k.1 % 32 := by decide +kernel
theorem and31 {t : Int} (h0 : 0 ≤ t) (h1 : t ≤ 255) : IntKind.wrap .i64 ↑(BitVec.ofInt 64 t &&& BitVec.ofInt 64 31).toNat = t % 32 := by
  have h := and31_fin ⟨t.toNat, by omega⟩
  simp only at h
  rw [show t = ((t.toNat : Nat) : Int) by omega, h, wrapK _ (by omega) (by omega)]
  omega
theorem lng_len {n : Int} : 1 ≤ (lngD n).length ∧ (lngD n).length ≤ 4 := by
  unfold lngD
  split
  . simp
  split
  . simp
  split <;> simp
theorem num_snoc (l : List Int) (x : Int) : numB (l ++ [x]) = 256 * numB l + x := by simp [numB, List.foldl_append]
theorem num_three {l : List Int} (h : l.length ≤ 3) (hb : Bys l) : 0 ≤ numB l ∧ numB l ≤ 16777215 := by
  match l, h with
  | [], _ => simp [numB]
  | [a], _ => have := hb a (by simp); simp [numB]; omega
  | [a, b], _ => have := hb a (by simp); have := hb b (by simp); simp [numB]; omega
  | [a, b, c], _ => have := hb a (by simp); have := hb b (by simp); have := hb c (by simp); simp [numB]; omega
theorem head_ok {b : List Int} (hb : Bys b) (h : (headK b).2.2.2 = 0) : 2 ≤ (headK b).2.1 ∧ (headK b).2.1 ≤ 5 ∧ (headK b).2.1 ≤ b.length ∧ 0 ≤ (headK b).2.2.1 ∧ (headK b).2.2.1 ≤ 16777215 ∧ isTagD (headK b).1 = true ∧ (headK b).1 = b.getD 0 0 := by
  have h1 := bys_get hb 1
  unfold headK at h ⊢
  split at h
  . simp at h
  rename_i c1
  rw [if_neg c1]
  split at h
  . simp at h
  rename_i c2
  rw [if_neg c2]
  split at h
  . simp at h
  rename_i c3
  rw [if_neg c3]
  have hl : b.length ≠ 0 := fun e => c1 (List.eq_nil_of_length_eq_zero e)
  split at h
  . rename_i c4
    rw [if_pos c4]
    exact ⟨by simp only; omega, by simp only; omega, by simp only; omega, h1.1, by simp only; omega, by simpa using c2, rfl⟩
  rename_i c4
  rw [if_neg c4]
  split at h
  . simp at h
  rename_i c5
  rw [if_neg c5]
  split at h
  . simp at h
  rename_i c6
  rw [if_neg c6]
  split at h
  . simp at h
  rename_i c7
  rw [if_neg c7]
  have := num_three (l := (b.drop 2).take (b.getD 1 0 - 128).toNat) (by rw [List.length_take]; omega) (bys_take (bys_drop hb 2) _)
  exact ⟨by simp only; omega, by simp only; omega, by simp only; omega, this.1, this.2, by simpa using c2, rfl⟩
theorem take_ok {b : List Int} (hb : Bys b) (h : (takeD b).2.2 = 0) : 2 ≤ (takeD b).2.1 ∧ (takeD b).2.1 ≤ b.length := by
  unfold takeD at h ⊢
  split at h
  . rename_i c; exact absurd h c
  rename_i c1
  rw [if_neg c1]
  split at h
  . simp at h
  rename_i c2
  rw [if_neg c2]
  have := head_ok hb (Classical.not_not.1 c1)
  exact ⟨by simp only; omega, by simp only; omega⟩
theorem row_end (b : List Int) (k : Nat) (i : Int) (h : ¬ i < b.length) : rowR b k i = ([], i, 0) := by
  cases k with
  | zero => rfl
  | succ k => rw [rowR, if_neg h]
theorem row_bad (b : List Int) (k : Nat) (i : Int) (h : i < b.length) (he : (takeD (b.drop i.toNat)).2.2 ≠ 0) : rowR b (k + 1) i = ([], i, (takeD (b.drop i.toNat)).2.2) := by
  rw [rowR, if_pos h, if_pos he]
theorem row_step (b : List Int) (k : Nat) (i : Int) (h : i < b.length) (he : (takeD (b.drop i.toNat)).2.2 = 0) :
    rowR b (k + 1) i = ((i, (takeD (b.drop i.toNat)).1) :: (rowR b k (i + (takeD (b.drop i.toNat)).2.1)).1, (rowR b k (i + (takeD (b.drop i.toNat)).2.1)).2) := by
  rw [rowR, if_pos h, if_neg (by rw [he]; simp)]
theorem num_lng {n : Int} (h0 : 128 ≤ n) (h1 : n ≤ 16777215) : numB ((lngD n).drop 1) = n ∧ (lngD n).getD 0 0 = 128 + ((lngD n).length - 1 : Int) ∧ (lngD n).getD 1 0 ≠ 0 ∧ 2 ≤ (lngD n).length := by
  unfold lngD
  rw [if_neg (by omega)]
  split
  . simp [numB]; omega
  split
  . simp [numB]; omega
  . simp [numB]; omega
theorem head_put {x : EltT} (ht : isTagD x.1 = true) (hc : x.2.length ≤ 16777215) (r : List Int) : headK (putB x ++ r) = (x.1, 1 + ((lngD x.2.length).length : Int), (x.2.length : Int), 0) := by
  obtain ⟨t, c⟩ := x
  simp only at ht hc ⊢
  have hll := lng_len (n := (c.length : Int))
  generalize hn : (c.length : Int) = n at hll
  have e : putB (t, c) ++ r = t :: (lngD n ++ (c ++ r)) := by simp only [putB, hn, List.cons_append, List.append_assoc]
  rw [e]
  unfold headK
  rw [if_neg (by simp)]
  simp only [List.getD_cons_zero, List.getD_cons_succ]
  rw [if_neg (by rw [ht]; decide), if_neg (by simp only [List.length_cons, List.length_append]; omega)]
  by_cases h : n < 128
  . have el : lngD n = [n] := by rw [lngD, if_pos h]
    rw [el]
    simp only [List.singleton_append, List.getD_cons_zero, List.length_singleton]
    rw [if_pos h]
    rfl
  . obtain ⟨k1, k2, k3, k4⟩ := num_lng (n := n) (by omega) (by omega)
    have g0 : (lngD n ++ (c ++ r)).getD 0 0 = (lngD n).getD 0 0 := getD_append_left _ _ _ (by omega)
    have g1 : (lngD n ++ (c ++ r)).getD 1 0 = (lngD n).getD 1 0 := getD_append_left _ _ _ (by omega)
    have hlen : (t :: (lngD n ++ (c ++ r))).length = 1 + (lngD n).length + (c ++ r).length := by simp; omega
    have hsl : ((t :: (lngD n ++ (c ++ r))).drop 2).take ((lngD n).getD 0 0 - 128).toNat = (lngD n).drop 1 := by
      rw [show (t :: (lngD n ++ (c ++ r))).drop 2 = (lngD n ++ (c ++ r)).drop 1 from rfl, List.drop_append_of_le_length (by omega), List.take_append_of_le_length (by rw [List.length_drop]; omega), List.take_of_length_le (by rw [List.length_drop]; omega)]
    rw [g0, g1, hsl, k1, hlen, if_neg (by omega), if_neg (by omega), if_neg (by omega), if_neg (by omega)]
    simp only [Prod.mk.injEq, true_and, and_true]
    omega
theorem put_len (x : EltT) : (putB x).length = 1 + (lngD x.2.length).length + x.2.length := by simp [putB]; omega
theorem take_put {x : EltT} (ht : isTagD x.1 = true) (hc : x.2.length ≤ 16777215) (r : List Int) : takeD (putB x ++ r) = (x, ((putB x).length : Int), 0) := by
  have hl := put_len x
  rw [takeD, head_put ht hc r]
  simp only [ne_eq, not_true_eq_false, if_false]
  rw [if_neg (by rw [List.length_append]; omega)]
  have e : ((putB x ++ r).drop (1 + ((lngD x.2.length).length : Int)).toNat).take ((x.2.length : Int)).toNat = x.2 := by
    rw [show putB x ++ r = (x.1 :: lngD x.2.length) ++ (x.2 ++ r) by simp [putB], show (1 + ((lngD x.2.length).length : Int)).toNat = (x.1 :: lngD x.2.length).length by simp; omega, List.drop_left, Int.toNat_natCast, List.take_left]
  rw [e]
  simp only [Prod.mk.injEq, and_true]
  exact ⟨by trivial, by omega⟩
theorem one_put {x : EltT} (ht : isTagD x.1 = true) (hc : x.2.length ≤ 16777215) : oneD (putB x) = (x, 0) := by
  have := take_put ht hc []
  rw [List.append_nil] at this
  rw [oneD, this, if_neg (by simp)]
theorem lng_num {b : List Int} (hb : Bys b) {k : Nat} (hk : 1 ≤ k) (hk3 : k ≤ 3) (hl : k ≤ b.length) (h0 : b.getD 0 0 ≠ 0) (hn : 128 ≤ numB (b.take k)) : lngD (numB (b.take k)) = (128 + (k : Int)) :: b.take k := by
  have hb' : Bys (b.take k) := bys_take hb k
  have hlen : (b.take k).length = k := by rw [List.length_take]; omega
  have h0' : (b.take k).getD 0 0 ≠ 0 := by rw [getD_take b k 0 (by omega)]; exact h0
  generalize b.take k = l at *
  subst hlen
  match l, hk, hk3 with
  | [a], _, _ =>
    have := hb' a (by simp)
    simp [numB] at hn ⊢
    rw [lngD, if_neg (by omega), if_pos (by omega)]
  | [a, c], _, _ =>
    have := hb' a (by simp)
    have := hb' c (by simp)
    simp at h0'
    simp [numB] at hn ⊢
    rw [lngD, if_neg (by omega), if_neg (by omega), if_pos (by omega)]
    simp; omega
  | [a, c, d], _, _ =>
    have := hb' a (by simp)
    have := hb' c (by simp)
    have := hb' d (by simp)
    simp at h0'
    simp [numB] at hn ⊢
    rw [lngD, if_neg (by omega), if_neg (by omega), if_neg (by omega)]
    simp; omega
theorem take_inv {b : List Int} (hb : Bys b) (h : (takeD b).2.2 = 0) : isTagD (takeD b).1.1 = true ∧ (takeD b).1.2.length ≤ 16777215 ∧ (takeD b).2.1 = ((putB (takeD b).1).length : Int) ∧ b = putB (takeD b).1 ++ b.drop (takeD b).2.1.toNat := by
  unfold takeD at h ⊢
  split at h
  . rename_i c; exact absurd h c
  rename_i c1
  rw [if_neg c1]
  split at h
  . simp at h
  rename_i c2
  rw [if_neg c2]
  have c1 := Classical.not_not.1 c1
  obtain ⟨q1, q2, q3, q4, q5, q6, q7⟩ := head_ok hb c1
  simp only
  -- the bytes ahead of the content
  have key : (headK b).1 :: lngD (headK b).2.2.1 = b.take (headK b).2.1.toNat := by
    have h1 := bys_get hb 1
    unfold headK at c1 ⊢
    split at c1
    . simp at c1
    rename_i d1
    rw [if_neg d1]
    split at c1
    . simp at c1
    rename_i d2
    rw [if_neg d2]
    split at c1
    . simp at c1
    rename_i d3
    rw [if_neg d3]
    have hl : b.length ≠ 0 := fun e => d1 (List.eq_nil_of_length_eq_zero e)
    have e2 : b = b.getD 0 0 :: b.getD 1 0 :: b.drop 2 := by
      have := drop_cons b 0 (by omega)
      rw [List.drop_zero] at this
      rw [drop_cons b 1 (by omega)] at this
      exact this
    split at c1
    . rename_i d4
      rw [if_pos d4]
      simp only
      rw [lngD, if_pos d4]
      conv => rhs; rw [e2]
      rfl
    rename_i d4
    rw [if_neg d4]
    split at c1
    . simp at c1
    rename_i d5
    rw [if_neg d5]
    split at c1
    . simp at c1
    rename_i d6
    rw [if_neg d6]
    split at c1
    . simp at c1
    rename_i d7
    rw [if_neg d7]
    simp only
    have hk : ∃ k : Nat, b.getD 1 0 = 128 + (k : Int) ∧ 1 ≤ k ∧ k ≤ 3 := ⟨(b.getD 1 0 - 128).toNat, by omega, by omega, by omega⟩
    obtain ⟨k, ek, k1, k3⟩ := hk
    have hk2 : (b.getD 1 0 - 128).toNat = k := by omega
    rw [hk2] at d7 ⊢
    have hg : (b.drop 2).getD 0 0 ≠ 0 := by
      rw [getD_drop]
      exact fun e => d5 (.inr (.inr ⟨by omega, e⟩))
    rw [lng_num (bys_drop hb 2) k1 k3 (by rw [List.length_drop]; omega) hg (by omega)]
    rw [show (2 + (b.getD 1 0 - 128)).toNat = k + 1 + 1 by omega]
    conv => rhs; rw [e2]
    rw [List.take_succ_cons, List.take_succ_cons, ek]
  have hcl : ((b.drop (headK b).2.1.toNat).take (headK b).2.2.1.toNat).length = (headK b).2.2.1.toNat := by rw [List.length_take, List.length_drop]; omega
  have hkl := congrArg List.length key
  rw [List.length_cons, List.length_take] at hkl
  have hcI : (((b.drop (headK b).2.1.toNat).take (headK b).2.2.1.toNat).length : Int) = (headK b).2.2.1 := by omega
  refine ⟨q6, by omega, ?_, ?_⟩
  . rw [put_len]
    simp only
    rw [hcI]
    omega
  . rw [putB]
    simp only
    rw [hcI, ← List.cons_append, key, show ((headK b).2.1 + (headK b).2.2.1).toNat = (headK b).2.1.toNat + (headK b).2.2.1.toNat by omega, List.append_assoc, ← List.drop_drop, List.take_append_drop, List.take_append_drop]
theorem one_back {b : List Int} (hb : Bys b) (h : (oneD b).2 = 0) : isTagD (oneD b).1.1 = true ∧ (oneD b).1.2.length ≤ 16777215 ∧ b = putB (oneD b).1 := by
  unfold oneD at h ⊢
  split at h
  . simp at h
  rename_i c
  rw [if_neg c]
  simp only at h ⊢
  obtain ⟨h1, h2, h3, h4⟩ := take_inv hb h
  have h5 := take_ok hb h
  refine ⟨h1, h2, ?_⟩
  have : b.length ≤ (takeD b).2.1.toNat := by omega
  rw [List.drop_of_length_le this, List.append_nil] at h4
  exact h4
theorem row_flat {b : List Int} : ∀ (l : List EltT) (k : Nat) (i : Int), 0 ≤ i → (∀ x ∈ l, isTagD x.1 = true ∧ x.2.length ≤ 16777215) → b.drop i.toNat = l.flatMap putB → (b.length : Int) - i ≤ k → i ≤ b.length → (rowR b k i).1.map (·.2) = l ∧ (rowR b k i).2 = ((b.length : Int), 0)
  | [], k, i, hi, _, e, hk, hib => by
    rw [List.flatMap_nil, List.drop_eq_nil_iff] at e
    rw [row_end b k i (by omega)]
    exact ⟨rfl, by simp only; rw [show i = (b.length : Int) by omega]⟩
  | x :: l, k, i, hi, hl, e, hk, hib => by
    have hx := hl x (by simp)
    rw [List.flatMap_cons] at e
    have ht := take_put hx.1 hx.2 (l.flatMap putB)
    rw [← e] at ht
    have hlen := congrArg List.length e
    have hp := put_len x
    rw [List.length_drop, List.length_append] at hlen
    obtain ⟨m, rfl⟩ : ∃ m, k = m + 1 := ⟨k - 1, by omega⟩
    rw [row_step b m i (by omega) (by rw [ht]), ht]
    simp only
    have ih := row_flat (b := b) l m (i + ((putB x).length : Int)) (by omega) (fun y hy => hl y (List.mem_cons_of_mem _ hy)) (by
      rw [show (i + ((putB x).length : Int)).toNat = i.toNat + (putB x).length by omega, ← List.drop_drop, e, List.drop_left]) (by omega) (by omega)
    refine ⟨?_, ih.2⟩
    rw [List.map_cons, ih.1]
theorem all_flat {l : List EltT} (hl : ∀ x ∈ l, isTagD x.1 = true ∧ x.2.length ≤ 16777215) : allD (l.flatMap putB) = (l, ((l.flatMap putB).length : Int), 0) := by
  have h := row_flat (b := l.flatMap putB) l (l.flatMap putB).length 0 (by decide) hl rfl (by omega) (by omega)
  rw [allD, rowD, if_neg (by rw [h.2]; simp), h.1, h.2]
theorem flat_row {b : List Int} (hb : Bys b) : ∀ (k : Nat) (i : Int), 0 ≤ i → i ≤ b.length → (b.length : Int) - i ≤ k → (rowR b k i).2.2 = 0 → b.drop i.toNat = ((rowR b k i).1.map (·.2)).flatMap putB ∧ (∀ x ∈ (rowR b k i).1.map (·.2), isTagD x.1 = true ∧ x.2.length ≤ 16777215) ∧ (rowR b k i).2.1 = b.length
  | 0, i, hi, hib, hk, _ => by
    rw [row_end b 0 i (by omega)]
    exact ⟨by rw [List.drop_of_length_le (by omega)]; rfl, (fun x hx => by cases hx), by simp only; omega⟩
  | k + 1, i, hi, hib, hk, h => by
    by_cases hlt : i < b.length
    . by_cases he : (takeD (b.drop i.toNat)).2.2 = 0
      . rw [row_step b k i hlt he] at h ⊢
        have hbd : Bys (b.drop i.toNat) := bys_drop hb _
        obtain ⟨h1, h2, h3, h4⟩ := take_inv hbd he
        have h5 := take_ok hbd he
        rw [List.length_drop] at h5
        obtain ⟨g1, g2, g3⟩ := flat_row hb k (i + (takeD (b.drop i.toNat)).2.1) (by omega) (by omega) (by omega) h
        refine ⟨?_, fun x hx => ?_, g3⟩
        . rw [List.map_cons, List.flatMap_cons, ← g1]
          rw [show (i + (takeD (b.drop i.toNat)).2.1).toNat = i.toNat + (takeD (b.drop i.toNat)).2.1.toNat by omega, ← List.drop_drop]
          exact h4
        . rw [List.map_cons] at hx
          rcases List.mem_cons.1 hx with rfl | hx
          . exact ⟨h1, h2⟩
          . exact g2 x hx
      . rw [row_bad b k i hlt he] at h
        exact absurd h he
    . rw [row_end b (k + 1) i hlt]
      exact ⟨by rw [List.drop_of_length_le (by omega)]; rfl, (fun x hx => by cases hx), by simp only; omega⟩
theorem flat_all {b : List Int} (hb : Bys b) (h : (allD b).2.2 = 0) : b = (allD b).1.flatMap putB ∧ (∀ x ∈ (allD b).1, isTagD x.1 = true ∧ x.2.length ≤ 16777215) := by
  unfold allD at h ⊢
  split at h
  . rename_i c; exact absurd h c
  rename_i c
  rw [if_neg c]
  obtain ⟨h1, h2, _⟩ := flat_row hb b.length 0 (by decide) (by omega) (by omega) (Classical.not_not.1 c)
  exact ⟨h1, h2⟩
theorem isTag_eq (t : Int) : (decide (0 ≤ t) && decide (t ≤ 255) && decide (¬ IntKind.wrap .i64 ↑(BitVec.ofInt 64 t &&& BitVec.ofInt 64 31).toNat = 31)) = isTagD t := by
  by_cases h : 0 ≤ t ∧ t ≤ 255
  . rw [and31 h.1 h.2, isTagD, Bool.and_assoc]
  . rw [isTagD, Bool.eq_iff_iff]
    simp only [Bool.and_eq_true, decide_eq_true_eq]
    omega
theorem fdiv_pow {n : Int} (h : 0 ≤ n) : n.fdiv (2 ^ 8) = n / 256 ∧ n.fdiv (2 ^ 16) = n / 65536 := by
  constructor <;> (rw [Int.fdiv_eq_ediv_of_nonneg _ (by decide)]; rfl)
theorem wrap_u8m (m : Int) : IntKind.wrap .u8 m = m % 256 := by simp [IntKind.wrap, IntKind.signed, IntKind.bits]
theorem flat_bound (xs : List (List Int)) (n : Nat) : (xs.take n).flatten.length ≤ xs.flatten.length := by
  conv => rhs; rw [← List.take_append_drop n xs]
  rw [List.flatten_append, List.length_append]
  omega
theorem take_flat (xs : List (List Int)) (i : Nat) (h : i < xs.length) : (xs.take (i + 1)).flatten = (xs.take i).flatten ++ xs.getD i [] := by
  rw [List.take_add_one, List.flatten_append, List.getD_eq_getElem?_getD, List.getElem?_eq_getElem h]
  simp
theorem flat_loop (xs : List (List Int)) (hp : xs.length ≤ 9223372036854775807) (hb : xs.flatten.length ≤ 1000000000) (z0 : List Int) (hz : z0 = []) :
    ∃ (I : Int × Unit → List Int × Unit → Prop) (μ : Int × Unit → List Int × Unit → Nat), I (0, ()) (z0, ()) ∧ ∀ (y_1 : Int × Unit) (z : List Int × Unit),
      (Kd.int IntKind.i64).wf y_1.fst → (Kd.int IntKind.u8).sl.wf z.fst → I y_1 z →
        (y_1.fst < ↑xs.length → (0 ≤ y_1.fst ∧ y_1.fst < ↑xs.length) ∧ 0 < 1 ∧ z.fst.length + (xs.getD y_1.fst.toNat []).length ≤ 140737488355328 ∧
          z.fst.length + (xs.getD y_1.fst.toNat []).length ≤ 9223372036854775807 ∧ I (IntKind.i64.wrap (y_1.fst + 1), ()) (z.fst ++ xs.getD y_1.fst.toNat [], ()) ∧
            μ (IntKind.i64.wrap (y_1.fst + 1), ()) (z.fst ++ xs.getD y_1.fst.toNat [], ()) < μ y_1 z) ∧
        (¬y_1.fst < ↑xs.length → z.fst = xs.flatten) := by
  refine ⟨fun y z => 0 ≤ y.1 ∧ y.1 ≤ xs.length ∧ z.1 = (xs.take y.1.toNat).flatten, fun y z => xs.length - y.1.toNat, ⟨by simp, by simp, by simp [hz]⟩, ?_⟩
  rintro ⟨i, _⟩ ⟨r, _⟩ hy hz ⟨h0, h1, h2⟩
  simp only at h0 h1 h2 ⊢
  refine ⟨fun hlt => ?_, fun hge => ?_⟩
  . have hw : IntKind.wrap .i64 (i + 1) = i + 1 := wrapM _ (by omega) (by omega)
    have e := take_flat xs i.toNat (by omega)
    have hl := flat_bound xs (i.toNat + 1)
    rw [e, List.length_append, ← h2] at hl
    rw [hw]
    refine ⟨⟨h0, hlt⟩, by decide, by omega, by omega, ⟨by omega, by omega, ?_⟩, by omega⟩
    rw [show (i + 1).toNat = i.toNat + 1 by omega, e, h2]
  . rw [h2, show i.toNat = xs.length by omega, List.take_length]
theorem or8 {v b : Int} (hb : 0 ≤ b ∧ b ≤ 255) (hv : 0 ≤ v ∧ v ≤ 65535) :
    IntKind.wrap .i64 ↑(BitVec.ofInt 64 (IntKind.wrap .i64 (v * 2 ^ 8)) ||| BitVec.ofInt 64 (IntKind.wrap .i64 b)).toNat = 256 * v + b := by
  have w1 : IntKind.wrap .i64 (v * 2 ^ 8) = v * 256 := wrapK _ (by omega) (by omega)
  rw [w1, wrapK b (by omega) (by omega), BitVec.toNat_or, BitVec.toNat_ofInt, BitVec.toNat_ofInt]
  have e1 : (v * 256 % ((2 ^ 64 : Nat) : Int)).toNat = v.toNat <<< 8 := by rw [Nat.shiftLeft_eq]; omega
  have e2 : (b % ((2 ^ 64 : Nat) : Int)).toNat = b.toNat := by omega
  rw [e1, e2, ← Nat.shiftLeft_add_eq_or_of_lt (by omega), Nat.shiftLeft_eq, wrapK _ (by omega) (by omega)]
  omega
theorem num_bound {l : List Int} (hb : Bys l) {j : Nat} (h : j ≤ 2) : 0 ≤ numB (l.take j) ∧ numB (l.take j) ≤ 65535 := by
  have hl : (l.take j).length ≤ 2 := by rw [List.length_take]; omega
  have hb := bys_take hb j
  generalize l.take j = m at hl hb
  match m, hl with
  | [], _ => simp [numB]
  | [a], _ => have := hb a (by simp); simp [numB]; omega
  | [a, b], _ => have := hb a (by simp); have := hb b (by simp); simp [numB]; omega
theorem size_of {n : Int} (h0 : 0 ≤ n) (h1 : n ≤ 16777215) : sizeD n = 1 + ((lngD n).length : Int) := by rw [sizeD, if_neg (by omega)]
theorem take_bad {b : List Int} {e : Int} (h : headK b = (0, 0, 0, e)) (he : e ≠ 0) : takeD b = ((0, []), 0, e) := by
  rw [takeD, h, if_pos he]
theorem take_good {b : List Int} {t f n : Int} (h : headK b = (t, f, n, 0)) : takeD b = if (b.length : Int) - f < n then ((0, []), 0, 10) else ((t, (b.drop f.toNat).take n.toNat), f + n, 0) := by
  rw [takeD, h, if_neg (by simp)]
theorem isTag_ref (t : Int) : (decide (0 ≤ t) && decide (t < 256) && decide (¬ t.tmod 32 = 31)) = isTagD t := by
  by_cases h : 0 ≤ t
  . rw [isTagD, Int.tmod_eq_emod_of_nonneg h, Bool.and_assoc]
    congr 2
    exact decide_eq_decide.2 (by omega)
  . rw [isTagD, decide_eq_false h]; rfl
end Go.Pl
