/- Object identifiers: what chapter 3 says of arcs, their bytes and their text. -/
import Derived.Test.YtkdffofjnjamlaaDoorZVcStrs
import Derived.Lib.ItoaNum
import Derived.Lib.Join
set_option linter.unusedVariables false
set_option linter.unusedSimpArgs false
namespace Go.Pl
open Go.Vc
set_option linter.unusedVariables false
set_option linter.unusedSimpArgs false

def inArc (a : Int) : Bool := decide (0 ≤ a) && decide (a ≤ 2147483647)
def mayO (l : List Int) : Bool :=
  decide (2 ≤ l.length) && decide (l.length ≤ 20) && l.all inArc && (if l.getD 0 0 < 2 then decide (l.getD 1 0 < 40) else if l.getD 0 0 = 2 then decide (l.getD 1 0 ≤ 2147483567) else false)
/-- The bytes of a number ahead of its last one. -/
def hiD : Nat → Int → List Int
  | 0, _ => []
  | k + 1, n => (128 + n / 128 ^ (k + 1) % 128) :: hiD k n
/-- How many there are. -/
def hiN (n : Int) : Nat := if n < 128 then 0 else if n < 16384 then 1 else if n < 2097152 then 2 else if n < 268435456 then 3 else 4
def numO (n : Int) : List Int := hiD (hiN n) n ++ [n % 128]
def encO (l : List Int) : List Int := numO (40 * l.getD 0 0 + l.getD 1 0) ++ (l.drop 2).flatMap numO
def EncO (l : List Int) : List Int × Int := if mayO l then (encO l, 0) else ([], 2)
/-- Decimal digits. -/
def digD (n : Int) : List Int := (Lib.decDigits n.toNat).map fun b => (b.toNat : Int)
def txtO (l : List Int) : List Int := digD (l.getD 0 0) ++ (l.drop 1).flatMap fun a => 46 :: digD a
def TxtO (l : List Int) : List Int × Int := if mayO l then (txtO l, 0) else ([], 2)

theorem may_args {l : List Int} (h : mayO l = true) : 2 ≤ l.length ∧ l.length ≤ 20 ∧ (∀ a ∈ l, 0 ≤ a ∧ a ≤ 2147483647) ∧ 0 ≤ 40 * l.getD 0 0 + l.getD 1 0 ∧ 40 * l.getD 0 0 + l.getD 1 0 ≤ 2147483647 := by
  simp only [mayO, Bool.and_eq_true, decide_eq_true_eq, List.all_eq_true, inArc] at h
  obtain ⟨⟨⟨h1, h2⟩, h3⟩, h4⟩ := h
  have m0 : l.getD 0 0 ∈ l := by
    rw [List.getD_eq_getElem?_getD, List.getElem?_eq_getElem (show 0 < l.length by omega)]
    exact List.getElem_mem _
  have m1 : l.getD 1 0 ∈ l := by
    rw [List.getD_eq_getElem?_getD, List.getElem?_eq_getElem (show 1 < l.length by omega)]
    exact List.getElem_mem _
  have g0 := h3 _ m0
  have g1 := h3 _ m1
  refine ⟨h1, h2, h3, by omega, ?_⟩
  split at h4
  · have := of_decide_eq_true h4; omega
  · split at h4
    · have := of_decide_eq_true h4; omega
    · cases h4

theorem hi_bounds (n : Int) (h : 0 ≤ n) (hn : n ≤ 2147483647) : n / 128 ^ (hiN n) < 128 ∧ (0 < hiN n → 0 < n / 128 ^ hiN n) ∧ hiN n ≤ 4 := by
  unfold hiN
  split
  · exact ⟨by simp; omega, by omega, by omega⟩
  · split
    · exact ⟨by simp; omega, by simp; omega, by omega⟩
    · split
      · exact ⟨by simp; omega, by simp; omega, by omega⟩
      · split
        · exact ⟨by simp; omega, by simp; omega, by omega⟩
        · exact ⟨by simp; omega, by simp; omega, by omega⟩
/-- A count that ends the loop is the count. -/
theorem hi_is {n : Int} {k : Nat} (h : 0 ≤ n) (hk : k ≤ 4) (h1 : n / 128 ^ k < 128) (h2 : 0 < k → 0 < n / 128 ^ k) : hiN n = k := by
  unfold hiN
  have : k = 0 ∨ k = 1 ∨ k = 2 ∨ k = 3 ∨ k = 4 := by omega
  rcases this with rfl | rfl | rfl | rfl | rfl
  · simp at h1; rw [if_pos h1]
  · simp at h1 h2; rw [if_neg (by omega), if_pos (by omega)]
  · simp at h1 h2; rw [if_neg (by omega), if_neg (by omega), if_pos (by omega)]
  · simp at h1 h2; rw [if_neg (by omega), if_neg (by omega), if_neg (by omega), if_pos (by omega)]
  · simp at h1 h2; rw [if_neg (by omega), if_neg (by omega), if_neg (by omega), if_neg (by omega)]
theorem u8_of {k : Nat} (h : k < 256) : ((UInt8.ofNat k).toNat : Int) = k := by
  have : (UInt8.ofNat k).toNat = k := by simp; omega
  rw [this]
theorem dig_small {n : Int} (h0 : 0 ≤ n) (h : n ≤ 9) : digD n = [48 + n] := by
  unfold digD
  rw [Lib.decDigits, dif_pos (by omega)]
  simp only [List.map_cons, List.map_nil]
  rw [u8_of (by omega)]
  congr 1
  omega
theorem dig_big {n : Int} (h : 9 < n) : digD n = digD (n / 10) ++ [48 + n % 10] := by
  unfold digD
  rw [Lib.decDigits, dif_neg (by omega), List.map_append]
  simp only [List.map_cons, List.map_nil]
  rw [u8_of (by omega), show (n / 10).toNat = n.toNat / 10 by omega]
  congr 2
  omega
theorem nDigits_le : ∀ (k u : Nat), u < 10 ^ (k + 1) → Lib.nDigits u ≤ k + 1
  | 0, u, h => by rw [Lib.nDigits_small (by simpa using h)]; exact Nat.le_refl _
  | k + 1, u, h => by
    by_cases h1 : u < 10
    · rw [Lib.nDigits_small h1]; omega
    · rw [Lib.nDigits_big h1]
      have := nDigits_le k (u / 10) (by rw [Nat.pow_succ] at h; omega)
      omega
theorem dig_len {n : Int} (h : n ≤ 2147483647) : (digD n).length ≤ 10 := by
  unfold digD
  rw [List.length_map, Lib.decDigits_length]
  exact nDigits_le 9 _ (by simp; omega)
def lenI (l : List Int) : Nat := l.length
theorem may_len {l : List Int} (h : (l.length : Int) < 2 ∨ 20 < (l.length : Int)) : mayO l = false := by
  cases hm : mayO l with
  | false => rfl
  | true => have := may_args hm; omega
theorem may_in {l : List Int} {i : Nat} (hi : i < l.length) (h : l.getD i 0 < 0 ∨ 2147483647 < l.getD i 0) : mayO l = false := by
  cases hm : mayO l with
  | false => rfl
  | true =>
    have := (may_args hm).2.2.1 (l.getD i 0) (by
      rw [List.getD_eq_getElem?_getD, List.getElem?_eq_getElem hi]
      exact List.getElem_mem _)
    omega
theorem may_rest {l : List Int} (h1 : 2 ≤ l.length) (h2 : l.length ≤ 20) (h3 : ∀ j, j < l.length → 0 ≤ l.getD j 0 ∧ l.getD j 0 ≤ 2147483647) :
    mayO l = (if l.getD 0 0 < 2 then decide (l.getD 1 0 < 40) else if l.getD 0 0 = 2 then decide (l.getD 1 0 ≤ 2147483567) else false) := by
  have ha : l.all inArc = true := by
    rw [List.all_eq_true]
    intro a ha
    obtain ⟨i, hi, e⟩ := List.mem_iff_getElem.1 ha
    have := h3 i hi
    rw [List.getD_eq_getElem?_getD, List.getElem?_eq_getElem hi] at this
    simp only [Option.getD_some, e] at this
    simp only [inArc, Bool.and_eq_true, decide_eq_true_eq]
    exact this
  rw [mayO, decide_eq_true h1, decide_eq_true h2, ha]
  simp
theorem hi_length : ∀ (k : Nat) (n : Int), (hiD k n).length = k
  | 0, _ => rfl
  | k + 1, n => by rw [hiD, List.length_cons, hi_length k n]
theorem hiN_le (n : Int) : hiN n ≤ 4 := by
  unfold hiN
  split
  · omega
  split
  · omega
  split
  · omega
  split <;> omega
theorem num_length (n : Int) : (numO n).length ≤ 5 ∧ 1 ≤ (numO n).length := by
  rw [numO, List.length_append, hi_length]
  have := hiN_le n
  simp
  omega
theorem pow_div (n : Int) (j : Nat) (hj : j ≤ 4) : n / 128 ^ (j + 1) = n / 128 ^ j / 128 := by
  have : j = 0 ∨ j = 1 ∨ j = 2 ∨ j = 3 ∨ j = 4 := by omega
  rcases this with rfl | rfl | rfl | rfl | rfl <;> simp only [Nat.reduceAdd, Int.reducePow] <;> omega
theorem shift_div (n : Int) (j : Nat) (h : 0 ≤ n) (hj : j ≤ 4) : n.fdiv (2 ^ min (7 * (j : Int)).toNat 64) = n / 128 ^ j := by
  have : j = 0 ∨ j = 1 ∨ j = 2 ∨ j = 3 ∨ j = 4 := by omega
  rcases this with rfl | rfl | rfl | rfl | rfl <;> (rw [Int.fdiv_eq_ediv_of_nonneg _ (by decide)]; rfl)
theorem small4 {n : Int} (hn : n ≤ 2147483647) : n / 128 ^ 4 ≤ 7 := by simp only [Int.reducePow]; omega
set_option maxRecDepth 100000 in
theorem or_bits : ∀ k : Fin 256, (BitVec.ofInt 8 (k.1 : Int) ||| BitVec.ofInt 8 128).toNat = 128 + k.1 % 128 := by decide
set_option maxRecDepth 100000 in
theorem and_bits : ∀ k : Fin 256, (BitVec.ofInt 8 (k.1 : Int) &&& BitVec.ofInt 8 127).toNat = k.1 % 128 := by decide
theorem wrap_u8 (m : Int) : IntKind.wrap .u8 m = m % 256 := by simp [IntKind.wrap, IntKind.signed, IntKind.bits]
theorem or128 (m : Int) : IntKind.wrap .u8 ↑(BitVec.ofInt 8 (IntKind.wrap .u8 m) ||| BitVec.ofInt 8 128).toNat = 128 + m % 128 := by
  have h := or_bits ⟨(m % 256).toNat, by omega⟩
  simp only at h
  rw [wrap_u8 m, show m % 256 = ((m % 256).toNat : Int) by omega, h, wrap_u8]
  omega
theorem and127 (m : Int) : IntKind.wrap .u8 ↑(BitVec.ofInt 8 (IntKind.wrap .u8 m) &&& BitVec.ofInt 8 127).toNat = m % 128 := by
  have h := and_bits ⟨(m % 256).toNat, by omega⟩
  simp only at h
  rw [wrap_u8 m, show m % 256 = ((m % 256).toNat : Int) by omega, h, wrap_u8]
  omega
/-- The bytes of the arcs ahead of a place. -/
def encP (l : List Int) (i : Nat) : List Int := numO (40 * l.getD 0 0 + l.getD 1 0) ++ ((l.take i).drop 2).flatMap numO
theorem encP_two (l : List Int) : encP l 2 = numO (40 * l.getD 0 0 + l.getD 1 0) := by
  unfold encP
  rw [List.drop_eq_nil_of_le (by simp; omega)]
  simp
theorem encP_all {l : List Int} {i : Nat} (h : l.length ≤ i) : encP l i = encO l := by
  unfold encP encO
  rw [List.take_of_length_le h]
theorem encP_step {l : List Int} {i : Nat} (h2 : 2 ≤ i) (h : i < l.length) : encP l (i + 1) = encP l i ++ numO (l.getD i 0) := by
  unfold encP
  have e : l.take (i + 1) = l.take i ++ [l.getD i 0] := by
    rw [List.take_add_one, List.getD_eq_getElem?_getD, List.getElem?_eq_getElem h]
    rfl
  rw [e, List.drop_append_of_le_length (by simp; omega), List.flatMap_append]
  simp [List.append_assoc]
theorem encP_len (l : List Int) : ∀ i, (encP l i).length ≤ 5 + 5 * i
  | 0 => by
    have h := num_length (40 * l.getD 0 0 + l.getD 1 0)
    unfold encP
    rw [List.take_zero, List.drop_nil, List.flatMap_nil, List.append_nil]
    omega
  | i + 1 => by
    by_cases h2 : 2 ≤ i
    · by_cases h : i < l.length
      · have := encP_len l i
        have := num_length (l.getD i 0)
        rw [encP_step h2 h, List.length_append]
        omega
      · rw [encP_all (by omega), ← encP_all (l := l) (i := i) (by omega)]
        have := encP_len l i
        omega
    · have : encP l (i + 1) = numO (40 * l.getD 0 0 + l.getD 1 0) := by
        unfold encP
        rw [List.drop_eq_nil_of_le (by simp; omega)]
        simp
      rw [this]
      have := num_length (40 * l.getD 0 0 + l.getD 1 0)
      omega
def itoaD (n : Int) : List Int := if n < 0 then 45 :: digD (-n) else digD n
def joinO : List (List Int) → List Int → List Int
  | [], _ => []
  | x :: r, s => x ++ r.flatMap (fun y => s ++ y)
theorem itoa_bs (n : Int) : bs ⟨(Lib.itoa n).toArray⟩ = itoaD n := by
  rw [bs_u8s, Lib.itoa, itoaD]
  split
  · rw [List.map_cons, digD, show (-n).toNat = n.natAbs by omega]
    rfl
  · rfl
theorem join_bs (xs : List ByteArray) (sep : ByteArray) : bs ⟨(Lib.join (xs.map (·.data.toList)) sep.data.toList).toArray⟩ = joinO (xs.map bs) (bs sep) := by
  rw [bs_u8s]
  cases xs with
  | nil => rfl
  | cons x r =>
    rw [List.map_cons, Lib.join_cons, List.map_append, List.map_cons, joinO, Lib.joinTail]
    congr 1
    induction r with
    | nil => rfl
    | cons y r ih =>
      simp only [List.map_cons, List.flatten_cons, List.map_append, List.flatMap_cons, ih]
      rfl
theorem itoa_len {n : Int} (h0 : -9223372036854775808 ≤ n) (h1 : n ≤ 9223372036854775807) : (Lib.itoa n).length ≤ 21 := by
  unfold Lib.itoa
  split
  · rw [List.length_cons, Lib.decDigits_length]
    have := nDigits_le 19 n.natAbs (by simp; omega)
    omega
  · rw [Lib.decDigits_length]
    have := nDigits_le 19 n.toNat (by simp; omega)
    omega
theorem itoa_pos {n : Int} (h : 0 ≤ n) : itoaD n = digD n := by rw [itoaD, if_neg (by omega)]
def txtP (l : List Int) (i : Nat) : List Int := digD (l.getD 0 0) ++ ((l.take i).drop 1).flatMap fun a => 46 :: digD a
theorem take_snocO {l : List Int} {i : Nat} (h : i < l.length) : l.take (i + 1) = l.take i ++ [l.getD i 0] := by
  rw [List.take_add_one, List.getD_eq_getElem?_getD, List.getElem?_eq_getElem h]
  rfl
theorem txtP_one (l : List Int) : txtP l 1 = digD (l.getD 0 0) := by
  unfold txtP
  rw [List.drop_eq_nil_of_le (by simp; omega)]
  simp
theorem txtP_all {l : List Int} {i : Nat} (h : l.length ≤ i) : txtP l i = txtO l := by
  unfold txtP txtO
  rw [List.take_of_length_le h]
theorem txtP_step {l : List Int} {i : Nat} (h2 : 1 ≤ i) (h : i < l.length) : txtP l (i + 1) = txtP l i ++ [46] ++ digD (l.getD i 0) := by
  unfold txtP
  rw [take_snocO h, List.drop_append_of_le_length (by simp; omega), List.flatMap_append]
  simp [List.append_assoc]
theorem txtP_len {l : List Int} (hl : ∀ i, i < l.length → l.getD i 0 ≤ 2147483647) : ∀ i, 1 ≤ i → i ≤ l.length → (txtP l i).length ≤ 11 * i
  | 0, h, _ => by omega
  | i + 1, _, h => by
    by_cases h1 : 1 ≤ i
    · rw [txtP_step h1 (by omega)]
      have := txtP_len hl i h1 (by omega)
      have := dig_len (hl i (by omega))
      simp only [List.length_append, List.length_singleton]
      omega
    · have e : i = 0 := by omega
      subst e
      rw [txtP_one]
      have := dig_len (hl 0 (by omega))
      omega
theorem join_txt {l : List Int} (h : 1 ≤ l.length) : joinO (l.map digD) [46] = txtO l := by
  cases l with
  | nil => simp at h
  | cons a r =>
    rw [List.map_cons, joinO, txtO]
    simp only [List.getD_cons_zero, List.drop_succ_cons, List.drop_zero, List.flatMap_map]
    rfl
end Go.Pl
