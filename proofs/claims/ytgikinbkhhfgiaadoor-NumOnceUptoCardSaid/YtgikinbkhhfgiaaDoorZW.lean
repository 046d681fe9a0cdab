/- Walks. -/
import Derived.Test.YtgikinbkhhfgiaaDoorZA
set_option linter.unusedVariables false
set_option linter.unusedSimpArgs false
namespace Go.Proofs.YtgikinbkhhfgiaaDoor
open Go Go.Vc Go.Proofs
set_option linter.unusedVariables false
set_option linter.unusedSimpArgs false
theorem and_low (b : Int) (n : Nat) (h0 : 0 ≤ b) (h1 : b ≤ 255) (hn : n ≤ 7) : IntKind.wrap .u8 ↑(BitVec.ofInt 8 b &&& BitVec.ofInt 8 (IntKind.wrap .u8 (IntKind.wrap .u8 (1 * 2 ^ min n 8) - 1))).toNat = b % 2 ^ n := by
  have key : ∀ b : Fin 256, ∀ n : Fin 8, IntKind.wrap .u8 ↑(BitVec.ofInt 8 (b.val : Int) &&& BitVec.ofInt 8 (IntKind.wrap .u8 (IntKind.wrap .u8 (1 * 2 ^ min n.val 8) - 1))).toNat = (b.val : Int) % 2 ^ n.val := by decide +kernel
  have := key ⟨b.toNat, by omega⟩ ⟨n, by omega⟩
  simpa [Int.toNat_of_nonneg h0] using this
theorem byte_get {l : List Int} (h : Kd.wf BY l) (i : Nat) : 0 ≤ l.getD i 0 ∧ l.getD i 0 ≤ 255 := by
  by_cases hi : i < l.length
  · have := h.2 l[i] (List.getElem_mem hi)
    rw [List.getD_eq_getElem?_getD, List.getElem?_eq_getElem hi]
    have h2 : InR .u8 l[i] := this
    simpa [InR, IntKind.min, IntKind.max, IntKind.signed, IntKind.bits] using h2
  · rw [List.getD_eq_getElem?_getD, List.getElem?_eq_none (by omega)]
    decide
theorem last_get (l : List Int) (h : l ≠ []) : l.getD (l.length - 1) 0 = l.getLastD 0 := by
  rw [List.getD_eq_getElem?_getD, ← List.getLast?_eq_getElem?, List.getLastD_eq_getLast?]
theorem pow7 (j : Nat) (h : j ≤ 7) : (2 : Int) ^ j ≤ 128 ∧ 0 < (2 : Int) ^ j := by
  have key : ∀ j : Fin 8, (2 : Int) ^ j.val ≤ 128 ∧ 0 < (2 : Int) ^ j.val := by decide +kernel
  exact key ⟨j, by omega⟩
theorem wrapk (i : Int) (h0 : -9000000000000000000 ≤ i) (h1 : i ≤ 9000000000000000000) : IntKind.wrap .i64 i = i := by rw [IntKind.wrap_i64]; omega
theorem flat_bound (xs : List (List Int)) (h1 : xs.length ≤ 100) (h2 : ∀ l ∈ xs, l.length ≤ 10000000) (n : Nat) : (xs.take n).flatten.length ≤ 1000000000 := by
  have key : ∀ ys : List (List Int), (∀ l ∈ ys, l.length ≤ 10000000) → ys.flatten.length ≤ ys.length * 10000000 := by
    intro ys
    induction ys with
    | nil => intro _; simp
    | cons y ys ih =>
      intro h
      have h3 := ih (fun l hl => h l (List.mem_cons_of_mem _ hl))
      have h4 := h y (by simp)
      simp only [List.flatten_cons, List.length_append, List.length_cons]
      omega
  have h3 := key (xs.take n) (fun l hl => h2 l (List.mem_of_mem_take hl))
  have h4 : (xs.take n).length ≤ xs.length := by simp; omega
  have : (xs.take n).length * 10000000 ≤ 100 * 10000000 := Nat.mul_le_mul_right _ (by omega)
  omega
theorem take_flat (xs : List (List Int)) (i : Nat) (h : i < xs.length) : (xs.take (i + 1)).flatten = (xs.take i).flatten ++ xs.getD i [] := by
  rw [List.take_add_one, List.flatten_append, List.getD_eq_getElem?_getD, List.getElem?_eq_getElem h]
  simp
theorem flat_loop (xs : List (List Int)) (hp : xs.length ≤ 100) (hb : ∀ n, (xs.take n).flatten.length ≤ 1000000000) (z0 : List Int) (hz : z0 = []) :
    ∃ (I : Int × Unit → List Int × Unit → Prop) (μ : Int × Unit → List Int × Unit → Nat), I (0, ()) (z0, ()) ∧ ∀ (y_1 : Int × Unit) (z : List Int × Unit),
      (Kd.int IntKind.i64).wf y_1.fst → (Kd.int IntKind.u8).sl.wf z.fst → I y_1 z →
        (y_1.fst < ↑xs.length → (0 ≤ y_1.fst ∧ y_1.fst < ↑xs.length) ∧ 0 < 1 ∧ z.fst.length + (xs.getD y_1.fst.toNat []).length ≤ 140737488355328 ∧
          z.fst.length + (xs.getD y_1.fst.toNat []).length ≤ 9223372036854775807 ∧ I (IntKind.i64.wrap (y_1.fst + 1), ()) (z.fst ++ xs.getD y_1.fst.toNat [], ()) ∧
            μ (IntKind.i64.wrap (y_1.fst + 1), ()) (z.fst ++ xs.getD y_1.fst.toNat [], ()) < μ y_1 z) ∧
        (¬y_1.fst < ↑xs.length → z.fst = xs.flatten) := by
  refine ⟨fun y z => 0 ≤ y.1 ∧ y.1 ≤ xs.length ∧ z.1 = (xs.take y.1.toNat).flatten, fun y z => xs.length - y.1.toNat, ⟨by simp, by simp, by simp [hz]⟩, ?_⟩
  rintro ⟨i, _⟩ ⟨r, _⟩ hy hz ⟨h0, h1, h2⟩
  simp only at h0 h1 h2 ⊢
  refine ⟨fun hlt => ?_, fun hge => ?_⟩
  · have hw : IntKind.wrap .i64 (i + 1) = i + 1 := wrapk _ (by omega) (by omega)
    have e := take_flat xs i.toNat (by omega)
    have hl := hb (i.toNat + 1)
    rw [e, List.length_append, ← h2] at hl
    rw [hw]
    refine ⟨⟨h0, hlt⟩, by decide, by omega, by omega, ⟨by omega, by omega, ?_⟩, by omega⟩
    rw [show (i + 1).toNat = i.toNat + 1 by omega, e, h2]
  · rw [h2, show i.toNat = xs.length by omega, List.take_length]
theorem sum_ones {α : Type} (l : List α) : (l.map fun _ => 1).sum = l.length := by
  induction l with
  | nil => rfl
  | cons _ _ ih => simp [ih]; omega
set_option linter.unusedVariables false
theorem set_self {x : Bool} : x = true → x = true := id
def fit (x : Int) (n : Nat) : Prop := -(2 ^ (8 * n - 1) : Int) ≤ x ∧ x < 2 ^ (8 * n - 1)
theorem fit_step (x : Int) (j : Nat) (hj : j ≤ 6) (hf : fit x (8 - j)) :
    (((low x 8).getD j 0 = 0 ∧ (low x 8).getD (j + 1) 0 < 128) ∨ ((low x 8).getD j 0 = 255 ∧ 128 ≤ (low x 8).getD (j + 1) 0)) ↔ fit x (7 - j) := by
  match j, hj with
  | 0, _ | 1, _ | 2, _ | 3, _ | 4, _ | 5, _ | 6, _ => simp [low, fit] at hf ⊢; omega
theorem wide_eq (x : Int) (n : Nat) (h1 : 1 ≤ n) (h8 : n ≤ 8) (hf : fit x n) (hn : n = 1 ∨ ¬ fit x (n - 1)) : wide x 1 7 = n := by
  match n, h1, h8 with
  | 1, _, _ | 2, _, _ | 3, _, _ | 4, _, _ | 5, _, _ | 6, _, _ | 7, _, _ | 8, _, _ =>
    simp [fit] at hf hn
    simp only [wide]
    repeat' split
    all_goals first | rfl | (exfalso; simp at *; omega)
theorem low_drop (x : Int) (j : Nat) (hj : j ≤ 8) : (low x 8).drop j = low x (8 - j) := by
  match j, hj with
  | 0, _ | 1, _ | 2, _ | 3, _ | 4, _ | 5, _ | 6, _ | 7, _ | 8, _ => rfl
theorem low_len (x : Int) : ∀ n, (low x n).length = n
  | 0 => rfl
  | n + 1 => by simp [low, low_len x n]
theorem low_at (x : Int) (i : Nat) (hi : i < 8) : (low x 8)[i]? = some ((x / 256 ^ (7 - i)) % 256) := by
  match i, hi with
  | 0, _ | 1, _ | 2, _ | 3, _ | 4, _ | 5, _ | 6, _ | 7, _ => rfl
theorem byte_u64 (x : Int) (n : Nat) (hn : n ≤ 7) : IntKind.wrap .u8 (Int.fdiv (IntKind.wrap .u64 x) (2 ^ min (IntKind.wrap .i64 (8 * (n : Int))).toNat 64)) = (x / 256 ^ n) % 256 := by
  match n, hn with
  | 0, _ | 1, _ | 2, _ | 3, _ | 4, _ | 5, _ | 6, _ | 7, _ =>
    simp [IntKind.wrap, IntKind.signed, IntKind.bits, Int.fdiv_eq_ediv_of_nonneg] <;> omega
theorem byte_i64 (x : Int) (n : Nat) (hn : n ≤ 7) : IntKind.wrap .u8 (Int.fdiv x (2 ^ min (IntKind.wrap .i64 (56 - IntKind.wrap .i64 (8 * (n : Int)))).toNat 64)) = (x / 256 ^ (7 - n)) % 256 := by
  match n, hn with
  | 0, _ | 1, _ | 2, _ | 3, _ | 4, _ | 5, _ | 6, _ | 7, _ =>
    simp [IntKind.wrap, IntKind.signed, IntKind.bits, Int.fdiv_eq_ediv_of_nonneg]
theorem fit8 {x : Int} (h : InR .i64 x) : fit x 8 := by
  simp [InR, IntKind.min, IntKind.max, IntKind.signed, IntKind.bits] at h
  simp [fit]
  omega
theorem rest (x : Int) (j : Nat) (hj : j ≤ 7) (hf : fit x (8 - j)) (hn : j = 7 ∨ ¬ fit x (7 - j)) : ((low x 8).drop j).take (8 - j) = IntD x := by
  rw [low_drop x j (by omega), List.take_of_length_le (by rw [low_len]; exact Nat.le_refl _), IntD, wide_eq x (8 - j) (by omega) (by omega) hf]
  rcases hn with h | h
  · exact .inl (by omega)
  · exact .inr (by rw [show 8 - j - 1 = 7 - j by omega]; exact h)
set_option linter.unusedVariables false
set_option linter.unusedSimpArgs false
theorem bitI (n i : Nat) (hi : i ≤ 16) : ((n : Int).fdiv (2 ^ min i 16)).tmod 2 = ((n / 2 ^ i % 2 : Nat) : Int) := by
  rw [Nat.min_eq_left hi, Int.fdiv_eq_ediv_of_nonneg _ (Int.le_of_lt (Int.pow_pos (by decide))), show (2 : Int) ^ i = ((2 ^ i : Nat) : Int) by simp, ← Int.natCast_ediv, Int.tmod_eq_emod_of_nonneg (Int.natCast_nonneg _)]
  rfl
theorem lastb_add (n j : Nat) : lastb n (8 + j) = if lastb (n / 256) j = 0 then lastb n 8 else 8 + lastb (n / 256) j := by
  induction j with
  | zero => rfl
  | succ j ih =>
    rw [← Nat.add_assoc]
    simp only [lastb]
    rw [show n / 2 ^ (8 + j) = n / 256 / 2 ^ j by rw [Nat.pow_add, Nat.div_div_eq_div_mul]]
    by_cases h : n / 256 / 2 ^ j % 2 = 1
    · simp only [if_pos h]
      rw [if_neg (by omega)]
      omega
    · simp only [if_neg h]
      exact ih
theorem lastb_pos (b : Nat) (h : b < 256) (h0 : b ≠ 0) : lastb b 8 ≠ 0 := by
  have key : ∀ b : Fin 256, b.val ≠ 0 → lastb b.val 8 ≠ 0 := by decide +kernel
  exact key ⟨b, h⟩ h0
theorem lastb_le (n : Nat) : ∀ j, lastb n j ≤ j
  | 0 => Nat.le_refl _
  | j + 1 => by
    simp only [lastb]
    split
    · exact Nat.le_refl _
    · exact Nat.le_succ_of_le (lastb_le n j)
theorem lastb16 (n : Nat) (h : n < 65536) : lastb n 16 = if n < 256 then lastb n 8 else 8 + lastb (n / 256) 8 := by
  rw [show 16 = 8 + 8 from rfl, lastb_add]
  by_cases h1 : n < 256
  · rw [if_pos h1, if_pos (by rw [Nat.div_eq_of_lt h1]; decide)]
  · rw [if_neg h1, if_neg (lastb_pos _ (by omega) (by omega))]
theorem prev_last (b : Nat) (h : b < 256) : prev b (lastb b 8) = prev b 8 := by
  have key : ∀ b : Fin 256, prev b.val (lastb b.val 8) = prev b.val 8 := by decide +kernel
  exact key ⟨b, h⟩
theorem prev_lt (b : Nat) (h : b < 256) : prev b 8 < 256 := by
  have key : ∀ b : Fin 256, prev b.val 8 < 256 := by decide +kernel
  exact key ⟨b, h⟩
theorem or_bit (b j : Nat) (h : b < 256) (hj : j < 8) (hb : b / 2 ^ j % 2 = 1) :
    IntKind.wrap .u8 ↑(BitVec.ofInt 8 (prev b j : Int) ||| BitVec.ofInt 8 (Int.fdiv 128 (2 ^ min j 8))).toNat = (prev b (j + 1) : Int) := by
  have key : ∀ b : Fin 256, ∀ j : Fin 8, b.val / 2 ^ j.val % 2 = 1 → IntKind.wrap .u8 ↑(BitVec.ofInt 8 (prev b.val j.val : Int) ||| BitVec.ofInt 8 (Int.fdiv 128 (2 ^ min j.val 8))).toNat = (prev b.val (j.val + 1) : Int) := by decide +kernel
  exact key ⟨b, h⟩ ⟨j, hj⟩ hb
theorem prev_skip (b j : Nat) (hb : ¬ b / 2 ^ j % 2 = 1) : prev b (j + 1) = prev b j := by
  simp [prev, hb]
/-- The bytes behind i bits. -/
def bytesAt (n i : Nat) : List Int :=
  if i = 0 then [] else if i ≤ 8 then [(prev (n % 256) i : Int)] else [(prev (n % 256) 8 : Int), (prev (n / 256) (i - 8) : Int)]
theorem bit_lo (n i : Nat) (h : i < 8) : n / 2 ^ i % 2 = n % 256 / 2 ^ i % 2 := by
  match i, h with
  | 0, _ | 1, _ | 2, _ | 3, _ | 4, _ | 5, _ | 6, _ | 7, _ => simp <;> omega
theorem bit_hi (n i : Nat) (h : 8 ≤ i) : n / 2 ^ i % 2 = n / 256 / 2 ^ (i - 8) % 2 := by
  conv => lhs; rw [show i = 8 + (i - 8) by omega, Nat.pow_add, ← Nat.div_div_eq_div_mul]
/-- One more bit. -/
theorem bytes_set (n i : Nat) (hn : n < 65536) (hi : i < 16) (z : List Int) (hz : z = if i % 8 = 0 then bytesAt n i ++ [0] else bytesAt n i) (hb : n / 2 ^ i % 2 = 1) :
    z.set (i / 8) (IntKind.wrap .u8 ↑(BitVec.ofInt 8 (z.getD (i / 8) 0) ||| BitVec.ofInt 8 (Int.fdiv 128 (2 ^ min (i % 8) 8))).toNat) = bytesAt n (i + 1) ∧ i / 8 < z.length := by
  subst hz
  have lo : ∀ j, j < 8 → n / 2 ^ j % 2 = 1 → IntKind.wrap .u8 ↑(BitVec.ofInt 8 (prev (n % 256) j : Int) ||| BitVec.ofInt 8 (Int.fdiv 128 (2 ^ min j 8))).toNat = (prev (n % 256) (j + 1) : Int) :=
    fun j hj h => or_bit (n % 256) j (by omega) hj (by rw [← bit_lo n j hj]; exact h)
  have hi2 : ∀ j, j < 8 → n / 2 ^ (8 + j) % 2 = 1 → IntKind.wrap .u8 ↑(BitVec.ofInt 8 (prev (n / 256) j : Int) ||| BitVec.ofInt 8 (Int.fdiv 128 (2 ^ min j 8))).toNat = (prev (n / 256) (j + 1) : Int) :=
    fun j hj h => or_bit (n / 256) j (by omega) hj (by have := bit_hi n (8 + j) (by omega); rw [Nat.add_sub_cancel_left] at this; rw [← this]; exact h)
  match i, hi with
  | 0, _ => exact ⟨by simpa [bytesAt, prev] using lo 0 (by decide) hb, by simp [bytesAt]⟩
  | 1, _ => exact ⟨by simpa [bytesAt] using lo 1 (by decide) hb, by simp [bytesAt]⟩
  | 2, _ => exact ⟨by simpa [bytesAt] using lo 2 (by decide) hb, by simp [bytesAt]⟩
  | 3, _ => exact ⟨by simpa [bytesAt] using lo 3 (by decide) hb, by simp [bytesAt]⟩
  | 4, _ => exact ⟨by simpa [bytesAt] using lo 4 (by decide) hb, by simp [bytesAt]⟩
  | 5, _ => exact ⟨by simpa [bytesAt] using lo 5 (by decide) hb, by simp [bytesAt]⟩
  | 6, _ => exact ⟨by simpa [bytesAt] using lo 6 (by decide) hb, by simp [bytesAt]⟩
  | 7, _ => exact ⟨by simpa [bytesAt] using lo 7 (by decide) hb, by simp [bytesAt]⟩
  | 8, _ => exact ⟨by simpa [bytesAt, prev] using hi2 0 (by decide) hb, by simp [bytesAt]⟩
  | 9, _ => exact ⟨by simpa [bytesAt] using hi2 1 (by decide) hb, by simp [bytesAt]⟩
  | 10, _ => exact ⟨by simpa [bytesAt] using hi2 2 (by decide) hb, by simp [bytesAt]⟩
  | 11, _ => exact ⟨by simpa [bytesAt] using hi2 3 (by decide) hb, by simp [bytesAt]⟩
  | 12, _ => exact ⟨by simpa [bytesAt] using hi2 4 (by decide) hb, by simp [bytesAt]⟩
  | 13, _ => exact ⟨by simpa [bytesAt] using hi2 5 (by decide) hb, by simp [bytesAt]⟩
  | 14, _ => exact ⟨by simpa [bytesAt] using hi2 6 (by decide) hb, by simp [bytesAt]⟩
  | 15, _ => exact ⟨by simpa [bytesAt] using hi2 7 (by decide) hb, by simp [bytesAt]⟩
  | i + 16, h => exact absurd h (by omega)
theorem bytes_skip (n i : Nat) (hi : i < 16) (hb : ¬ n / 2 ^ i % 2 = 1) : (if i % 8 = 0 then bytesAt n i ++ [0] else bytesAt n i) = bytesAt n (i + 1) := by
  have lo : ∀ j, j < 8 → ¬ n / 2 ^ j % 2 = 1 → prev (n % 256) (j + 1) = prev (n % 256) j := fun j hj h => prev_skip _ _ (by rw [← bit_lo n j hj]; exact h)
  have hi2 : ∀ j, j < 8 → ¬ n / 2 ^ (8 + j) % 2 = 1 → prev (n / 256) (j + 1) = prev (n / 256) j :=
    fun j hj h => prev_skip _ _ (by have := bit_hi n (8 + j) (by omega); rw [Nat.add_sub_cancel_left] at this; rw [← this]; exact h)
  match i, hi with
  | 0, _ => have h : prev (n % 256) 1 = 0 := lo 0 (by decide) hb; simp [bytesAt, h]
  | 1, _ => simp [bytesAt, lo 1 (by decide) hb]
  | 2, _ => simp [bytesAt, lo 2 (by decide) hb]
  | 3, _ => simp [bytesAt, lo 3 (by decide) hb]
  | 4, _ => simp [bytesAt, lo 4 (by decide) hb]
  | 5, _ => simp [bytesAt, lo 5 (by decide) hb]
  | 6, _ => simp [bytesAt, lo 6 (by decide) hb]
  | 7, _ => simp [bytesAt, lo 7 (by decide) hb]
  | 8, _ => have h : prev (n / 256) 1 = 0 := hi2 0 (by decide) hb; simp [bytesAt, h]
  | 9, _ => simp [bytesAt, hi2 1 (by decide) hb]
  | 10, _ => simp [bytesAt, hi2 2 (by decide) hb]
  | 11, _ => simp [bytesAt, hi2 3 (by decide) hb]
  | 12, _ => simp [bytesAt, hi2 4 (by decide) hb]
  | 13, _ => simp [bytesAt, hi2 5 (by decide) hb]
  | 14, _ => simp [bytesAt, hi2 6 (by decide) hb]
  | 15, _ => simp [bytesAt, hi2 7 (by decide) hb]
  | i + 16, h => exact absurd h (by omega)
theorem flags_end (n : Nat) (hn : n < 65536) : (lastb n 16 = 0 → [IntKind.wrap .u8 0] ++ bytesAt n 0 = FlagsD n) ∧
    (lastb n 16 ≠ 0 → [IntKind.wrap .u8 (IntKind.wrap .i64 (7 - ((lastb n 16 : Int) - 1).tmod 8))] ++ bytesAt n (lastb n 16) = FlagsD n) := by
  rw [lastb16 n hn]
  refine ⟨fun h => ?_, fun h => ?_⟩
  · split at h
    · rename_i h1
      have h0 : n = 0 := by
        by_cases e : n = 0
        · exact e
        · exact absurd h (lastb_pos n h1 e)
      subst h0
      rfl
    · omega
  · split at h
    · rename_i h1
      have h0 : n ≠ 0 := fun e => h (by rw [e]; decide)
      have hl := lastb_le n 8
      rw [if_pos h1]
      have e1 : ((lastb n 8 : Int) - 1).tmod 8 = (lastb n 8 : Int) - 1 := by
        rw [Int.tmod_eq_emod_of_nonneg (by omega)]; omega
      have e2 : IntKind.wrap .u8 (IntKind.wrap .i64 (7 - ((lastb n 8 : Int) - 1))) = 8 - (lastb n 8 : Int) := by
        simp [IntKind.wrap, IntKind.signed, IntKind.bits]; omega
      rw [e1, e2]
      simp only [FlagsD, if_neg h0, if_pos h1, bytesAt, if_neg h, if_pos hl, Nat.mod_eq_of_lt h1, prev_last n h1]
      rfl
    · rename_i h1
      have hp := lastb_pos (n / 256) (by omega) (by omega)
      have hl := lastb_le (n / 256) 8
      rw [if_neg h1]
      have e1 : (((8 + lastb (n / 256) 8 : Nat) : Int) - 1).tmod 8 = (lastb (n / 256) 8 : Int) - 1 := by
        rw [Int.tmod_eq_emod_of_nonneg (by omega)]; omega
      have e2 : IntKind.wrap .u8 (IntKind.wrap .i64 (7 - ((lastb (n / 256) 8 : Int) - 1))) = 8 - (lastb (n / 256) 8 : Int) := by
        simp [IntKind.wrap, IntKind.signed, IntKind.bits]; omega
      rw [e1, e2]
      simp only [FlagsD, if_neg (show n ≠ 0 by omega), if_neg h1, bytesAt, if_neg (show 8 + lastb (n / 256) 8 ≠ 0 by omega), if_neg (show ¬ 8 + lastb (n / 256) 8 ≤ 8 by omega), Nat.add_sub_cancel_left, prev_last (n / 256) (by omega)]
      rfl
theorem u16_nat {x : Int} (h : Kd.wf (.int .u16) x) : ∃ n : Nat, x = n ∧ n < 65536 := by
  have h : InR .u16 x := h
  simp [InR, IntKind.min, IntKind.max, IntKind.signed, IntKind.bits] at h
  exact ⟨x.toNat, by omega, by omega⟩
theorem nat_le_of {n : Nat} (h : n ≤ 100) : n + 1 ≤ 140737488355328 ∧ n + 1 ≤ 9223372036854775807 ∧ 1 + n ≤ 140737488355328 ∧ 1 + n ≤ 9223372036854775807 := by omega
theorem bytesAt_len (n i : Nat) : (bytesAt n i).length ≤ 2 := by
  unfold bytesAt; split
  · simp
  · split <;> simp
theorem u16_and (n : Nat) (h : n < 65536) : IntKind.wrap .u16 ↑(BitVec.ofInt 16 (n : Int) &&& BitVec.ofInt 16 255).toNat = ((n % 256 : Nat) : Int) := by
  have e : (BitVec.ofInt 16 (n : Int) &&& BitVec.ofInt 16 255).toNat = n % 256 := by
    rw [BitVec.toNat_and, BitVec.ofInt_natCast, BitVec.toNat_ofNat, Nat.mod_eq_of_lt (show n < 2 ^ 16 by omega), show (BitVec.ofInt 16 255).toNat = 2 ^ 8 - 1 from rfl, Nat.and_two_pow_sub_one_eq_mod]
  rw [e]
  simp [IntKind.wrap, IntKind.signed, IntKind.bits]
  omega
theorem u16_or (a b : Nat) (ha : a < 256) (hb : b < 256) : IntKind.wrap .u16 ↑(BitVec.ofInt 16 (IntKind.wrap .u16 (a : Int)) ||| BitVec.ofInt 16 (IntKind.wrap .u16 (IntKind.wrap .u16 (b : Int) * 2 ^ 8))).toNat = (a : Int) + 256 * (b : Int) := by
  have e1 : IntKind.wrap .u16 (a : Int) = (a : Nat) := by simp [IntKind.wrap, IntKind.signed, IntKind.bits]; omega
  have e2 : IntKind.wrap .u16 (IntKind.wrap .u16 (b : Int) * 2 ^ 8) = ((2 ^ 8 * b : Nat) : Int) := by simp [IntKind.wrap, IntKind.signed, IntKind.bits]; omega
  rw [e1, e2, BitVec.toNat_or, BitVec.ofInt_natCast, BitVec.ofInt_natCast, BitVec.toNat_ofNat, BitVec.toNat_ofNat, Nat.mod_eq_of_lt (show a < 2 ^ 16 by omega), Nat.mod_eq_of_lt (show 2 ^ 8 * b < 2 ^ 16 by omega), Nat.or_comm, ← Nat.two_pow_add_eq_or_of_lt (show a < 2 ^ 8 by omega)]
  simp [IntKind.wrap, IntKind.signed, IntKind.bits]
  omega
theorem fdiv8 (n : Nat) : ((n : Int).fdiv (2 ^ 8)) = ((n / 256 : Nat) : Int) := by
  rw [Int.fdiv_eq_ediv_of_nonneg _ (by decide)]; rfl
theorem trim_le (l : List Int) : (trimD l).length ≤ l.length := (List.dropWhile_sublist _).length_le
theorem trim_step (l : List Int) (i : Nat) (h : i < l.length) (h0 : l.getD i 0 = 0) : trimD (l.drop i) = trimD (l.drop (i + 1)) := by
  have e : l[i] = 0 := by rw [List.getD_eq_getElem?_getD, List.getElem?_eq_getElem h] at h0; exact h0
  rw [List.drop_eq_getElem_cons h, e]
  rfl
theorem trim_stop (l : List Int) (i : Nat) (h0 : i < l.length → l.getD i 0 ≠ 0) : trimD (l.drop i) = l.drop i := by
  by_cases h : i < l.length
  · have h1 := h0 h
    rw [List.getD_eq_getElem?_getD, List.getElem?_eq_getElem h] at h1
    rw [List.drop_eq_getElem_cons h, trimD, List.dropWhile_cons, if_neg (by simpa using h1)]
  · rw [List.drop_of_length_le (by omega)]
    rfl
theorem nat_le (l : List Int) : (NatD l).length ≤ l.length + 1 := by
  have := trim_le l
  unfold NatD
  split <;> simp <;> omega
def t29 : Prop :=
  ∀ (x : List Int × Unit),
    Kd.wf (Kd.sl (Kd.int IntKind.u8)) x.fst ∧ True →
      List.length x.fst ≤ (1000000000 : Nat) →
        ∀ (b : Bool),
          (b = true → x.fst = []) →
            (b = true → [] = x.fst) ∧
              (b = false →
                (0 : Nat) < (1 : Nat) ∧ ((0 : Nat) + List.length x.fst) * (1 : Nat) ≤ (140737488355328 : Nat) ∧ (0 : Nat) + List.length x.fst ≤ (9223372036854775807 : Nat) ∧ [] ++ x.fst = x.fst)
theorem e29 : t29 = Con.vc c29 GL (mkEnv ty [] [] [] [0, 2, 4]) {} Tryd.f29.ntmps Tryd.f29.results.toList (bodyOf Tryd.f29) := by kernel_rfl
theorem k29 : t29 := by
  unfold t29
  intro x hx hp b hb
  refine ⟨fun h => (hb h).symm, fun _ => ⟨by decide, by omega, by omega, rfl⟩⟩
theorem h29 : c29.ok Tryd.prog GL 29 := con_ok (H := {}) (mkEnv_ok (gl := GL) (l := []) (q := []) (d := []) _ tyOk (by kernel_rfl) trivial trivial trivial) (by kernel_rfl) (by kernel_rfl) (Eq.mp e29 k29)

def t8 : Prop :=
  ∀ (x : List Int × List Int × List Int × Unit),
    Kd.wf (Kd.sl (Kd.int IntKind.u8)) x.fst ∧ Kd.wf (Kd.sl (Kd.int IntKind.u8)) x.snd.fst ∧ Kd.wf (Kd.sl (Kd.int IntKind.u8)) x.snd.snd.fst ∧ True →
      List.length x.fst ≤ (1000000000 : Nat) →
        (decide (x.fst ≠ x.snd.snd.fst) = true → x.fst = x.snd.snd.fst → x.snd.fst = x.snd.snd.fst → false = true) ∧
          (decide (x.fst ≠ x.snd.snd.fst) = false →
            ∃ (I : Int × Unit → List Int × Unit → Prop),
              ∃ (μ : Int × Unit → List Int × Unit → Nat),
                (Value.bool false = Value.bool false ∧ Value.bool false = Value.bool false ∧ x.snd.fst = x.snd.fst ∧ x.snd.snd.fst = x.snd.snd.fst ∧ I ((0 : Int), ()) (x.fst, ())) ∧
                  ∀ (y : Int × Unit) (z : List Int × Unit),
                    Kd.wf (Kd.int IntKind.i64) y.fst ∧ True →
                      Kd.wf (Kd.sl (Kd.int IntKind.u8)) z.fst ∧ True →
                        I y z →
                          (decide (y.fst < (↑(List.length z.fst) : Int)) = true →
                              ((0 : Int) ≤ y.fst ∧ y.fst < (↑(List.length z.fst) : Int)) ∧
                                ((0 : Int) ≤ y.fst ∧ y.fst < (↑(List.length z.fst) : Int)) ∧
                                  Value.bool false = Value.bool false ∧
                                    Value.bool false = Value.bool false ∧
                                      x.snd.fst = x.snd.fst ∧
                                        x.snd.snd.fst = x.snd.snd.fst ∧
                                          I (IntKind.wrap IntKind.i64 (y.fst + (1 : Int)), ())
                                              (List.set z.fst (Int.toNat y.fst) (IntKind.wrap IntKind.u8 (List.getD z.fst (Int.toNat y.fst) (Kd.dft (Kd.int IntKind.u8)) + (1 : Int))), ()) ∧
                                            μ (IntKind.wrap IntKind.i64 (y.fst + (1 : Int)), ())
                                                (List.set z.fst (Int.toNat y.fst) (IntKind.wrap IntKind.u8 (List.getD z.fst (Int.toNat y.fst) (Kd.dft (Kd.int IntKind.u8)) + (1 : Int))), ()) <
                                              μ y z) ∧
                            (decide (y.fst < (↑(List.length z.fst) : Int)) = false →
                              (0 : Nat) < (1 : Nat) ∧
                                (List.length z.fst + (2 : Nat)) * (1 : Nat) ≤ (140737488355328 : Nat) ∧
                                  List.length z.fst + (2 : Nat) ≤ (9223372036854775807 : Nat) ∧ (x.fst = x.snd.snd.fst → x.snd.fst = x.snd.snd.fst → decide (x.snd.fst = x.snd.snd.fst) = true)))
theorem e8 : t8 = Con.vc c8 GL (mkEnv ty [] [] [] [0, 1, 2, 6, 7, 12, 16]) {} Tryd.f8.ntmps Tryd.f8.results.toList (bodyOf Tryd.f8) := by kernel_rfl
theorem k8 : t8 := by
  unfold t8
  intro x hx hp
  refine ⟨fun h h1 => absurd h1 (of_decide_eq_true h), fun h => ⟨fun y z => 0 ≤ y.1 ∧ z.1.length ≤ 1000000000, fun y z => (z.1.length - y.1).toNat, ⟨rfl, rfl, rfl, rfl, by decide, hp⟩, ?_⟩⟩
  rintro ⟨i, u⟩ ⟨z, u'⟩ hw hw2 ⟨h1, h2⟩
  simp only at h1 h2 hw hw2 ⊢
  refine ⟨fun hc => ?_, fun hc => ⟨by decide, by omega, by omega, fun _ e => decide_eq_true e⟩⟩
  have hc := of_decide_eq_true hc
  have hwr : IntKind.wrap .i64 (i + 1) = i + 1 := by rw [IntKind.wrap_i64]; omega
  refine ⟨by omega, by omega, by trivial, by trivial, by trivial, by trivial, ?_, ?_⟩
  · rw [hwr, List.length_set]; exact ⟨by omega, h2⟩
  · rw [hwr, List.length_set]; omega
theorem h8 : c8.ok Tryd.prog GL 8 := con_ok (H := {}) (mkEnv_ok (gl := GL) (l := []) (q := []) (d := []) _ tyOk (by kernel_rfl) trivial trivial trivial) (by kernel_rfl) (by kernel_rfl) (Eq.mp e8 k8)

def t12 : Prop :=
  ∀ (x : Unit), True → True → true = true
theorem e12 : t12 = Con.vc c12 GL (mkEnv ty [] [] [] [0]) {} Tryd.f12.ntmps Tryd.f12.results.toList (bodyOf Tryd.f12) := by kernel_rfl
theorem k12 : t12 := by
  unfold t12
  intro _ _ _
  rfl
theorem h12 : c12.ok Tryd.prog GL 12 := con_ok (H := {}) (mkEnv_ok (gl := GL) (l := []) (q := []) (d := []) _ tyOk (by kernel_rfl) trivial trivial trivial) (by kernel_rfl) (by kernel_rfl) (Eq.mp e12 k12)

def t26 : Prop :=
  ∀ (x : Bool × Unit), Kd.wf Kd.bool x.fst ∧ True → True → (x.fst = true → [(255 : Int)] = BoolD x.fst) ∧ (x.fst = false → [(0 : Int)] = BoolD x.fst)
theorem e26 : t26 = Con.vc c26 GL (mkEnv ty [] [] [] [0, 2, 3]) {} Tryd.f26.ntmps Tryd.f26.results.toList (bodyOf Tryd.f26) := by kernel_rfl
theorem k26 : t26 := by
  unfold t26
  intro x _ _
  exact ⟨fun h => by rw [h]; rfl, fun h => by rw [h]; rfl⟩
theorem h26 : c26.ok Tryd.prog GL 26 := con_ok (H := {}) (mkEnv_ok (gl := GL) (l := []) (q := []) (d := []) _ tyOk (by kernel_rfl) trivial trivial trivial) (by kernel_rfl) (by kernel_rfl) (Eq.mp e26 k26)

def t33 : Prop :=
  ∀ (x : Bool × Unit), Kd.wf Kd.bool x.fst ∧ True → True → (x.fst = true → [(255 : Int)] = BoolD x.fst) ∧ (x.fst = false → [(0 : Int)] = BoolD x.fst)
theorem e33 : t33 = Con.vc c33 GL (mkEnv ty [] [] [] [0, 2, 3]) {} Tryd.f33.ntmps Tryd.f33.results.toList (bodyOf Tryd.f33) := by kernel_rfl
theorem k33 : t33 := by
  unfold t33
  intro x _ _
  exact ⟨fun h => by rw [h]; rfl, fun h => by rw [h]; rfl⟩
theorem h33 : c33.ok Tryd.prog GL 33 := con_ok (H := {}) (mkEnv_ok (gl := GL) (l := []) (q := []) (d := []) _ tyOk (by kernel_rfl) trivial trivial trivial) (by kernel_rfl) (by kernel_rfl) (Eq.mp e33 k33)

noncomputable def i42 : CallSem := cutSem <| vcFn (mkEnv ty [] [] [] [0, 1, 4, 6, 16]) {} Tryd.f42.ntmps Tryd.f42.results.toList (bodyOf Tryd.f42)
theorem i42_ok : CallOk Tryd.prog GL 42 i42 := cut_ok <| inl_ok {} (mkEnv_ok (gl := GL) (l := []) (q := []) (d := []) _ tyOk (by kernel_rfl) trivial trivial trivial) (by kernel_rfl) (by kernel_rfl)

def t28 : Prop :=
  ∀ (x : List (List Int) × Unit),
    Kd.wf (Kd.sl (Kd.sl (Kd.int IntKind.u8))) x.fst ∧ True →
      (List.length x.fst ≤ (100 : Nat) ∧ ∀ (l : List Int), l ∈ x.fst → List.length l ≤ (10000000 : Nat)) →
        ∃ (I : Int × Int × Unit → Unit → Prop),
          ∃ (μ : Int × Int × Unit → Unit → Nat),
            ((↑(List.length x.fst) : Int) = (↑(List.length x.fst) : Int) ∧
                x.fst = x.fst ∧ Value.slice none (0 : Nat) (0 : Nat) = Value.slice none (0 : Nat) (0 : Nat) ∧ x.fst = x.fst ∧ I ((0 : Int), (0 : Int), ()) ()) ∧
              ∀ (y : Int × Int × Unit) (z : Unit),
                Kd.wf (Kd.int IntKind.i64) y.fst ∧ Kd.wf (Kd.int IntKind.i64) y.snd.fst ∧ True →
                  True →
                    I y z →
                      (decide (y.fst < (↑(List.length x.fst) : Int)) = true →
                          ((0 : Int) ≤ y.fst ∧ y.fst < (↑(List.length x.fst) : Int)) ∧
                            (decide (IntKind.wrap IntKind.i64 (y.snd.fst + (↑(List.length (List.getD x.fst (Int.toNat y.fst) (Kd.dft (Kd.sl (Kd.int IntKind.u8))))) : Int)) < (0 : Int)) = true → False) ∧
                              (decide (IntKind.wrap IntKind.i64 (y.snd.fst + (↑(List.length (List.getD x.fst (Int.toNat y.fst) (Kd.dft (Kd.sl (Kd.int IntKind.u8))))) : Int)) < (0 : Int)) = false →
                                (↑(List.length x.fst) : Int) = (↑(List.length x.fst) : Int) ∧
                                  x.fst = x.fst ∧
                                    Value.slice none (0 : Nat) (0 : Nat) = Value.slice none (0 : Nat) (0 : Nat) ∧
                                      x.fst = x.fst ∧
                                        I
                                            (IntKind.wrap IntKind.i64 (y.fst + (1 : Int)),
                                              IntKind.wrap IntKind.i64 (y.snd.fst + (↑(List.length (List.getD x.fst (Int.toNat y.fst) (Kd.dft (Kd.sl (Kd.int IntKind.u8))))) : Int)), ())
                                            () ∧
                                          μ
                                              (IntKind.wrap IntKind.i64 (y.fst + (1 : Int)),
                                                IntKind.wrap IntKind.i64 (y.snd.fst + (↑(List.length (List.getD x.fst (Int.toNat y.fst) (Kd.dft (Kd.sl (Kd.int IntKind.u8))))) : Int)), ())
                                              () <
                                            μ y z)) ∧
                        (decide (y.fst < (↑(List.length x.fst) : Int)) = false →
                          (decide (y.snd.fst < (0 : Int)) = true → False) ∧
                            (decide (y.snd.fst < (0 : Int)) = false →
                              (decide ((0 : Int) < IntKind.wrap IntKind.i64 (y.snd.fst - IntKind.wrap IntKind.i64 ((0 : Int) - (0 : Int)))) = true →
                                  ((0 : Int) ≤ (0 : Int) ∧ (0 : Int) ≤ (↑(0 : Nat) : Int)) ∧
                                    (0 : Int) < IntKind.wrap IntKind.i64 (y.snd.fst - IntKind.wrap IntKind.i64 ((0 : Int) - (0 : Int))) ∧
                                      IntKind.wrap IntKind.i64 (y.snd.fst - IntKind.wrap IntKind.i64 ((0 : Int) - (0 : Int))) ≤ (1000000000 : Int) ∧
                                        ((0 : Int) ≤ (0 : Int) ∧
                                            (0 : Int) ≤
                                              (↑(List.length
                                                    (List.replicate (Int.toNat (IntKind.wrap IntKind.i64 (y.snd.fst - IntKind.wrap IntKind.i64 ((0 : Int) - (0 : Int))))) (Kd.dft (Kd.int IntKind.u8)))) :
                                                Int)) ∧
                                          (0 : Nat) = (0 : Nat) ∧
                                            ∃ (I : Int × Unit → List Int × Unit → Prop),
                                              ∃ (μ : Int × Unit → List Int × Unit → Nat),
                                                ((↑(List.length x.fst) : Int) = (↑(List.length x.fst) : Int) ∧
                                                    x.fst = x.fst ∧
                                                      Value.bool false = Value.bool false ∧
                                                        y.fst = y.fst ∧
                                                          (↑(List.length x.fst) : Int) = (↑(List.length x.fst) : Int) ∧
                                                            x.fst = x.fst ∧
                                                              y.snd.fst = y.snd.fst ∧
                                                                Value.slice none (0 : Nat) (0 : Nat) = Value.slice none (0 : Nat) (0 : Nat) ∧
                                                                  x.fst = x.fst ∧
                                                                    I ((0 : Int), ())
                                                                      (List.take ((0 : Nat) - (0 : Nat))
                                                                          (List.replicate (Int.toNat (IntKind.wrap IntKind.i64 (y.snd.fst - IntKind.wrap IntKind.i64 ((0 : Int) - (0 : Int)))))
                                                                            (Kd.dft (Kd.int IntKind.u8))),
                                                                        ())) ∧
                                                  ∀ (y_1 : Int × Unit) (z : List Int × Unit),
                                                    Kd.wf (Kd.int IntKind.i64) y_1.fst ∧ True →
                                                      Kd.wf (Kd.sl (Kd.int IntKind.u8)) z.fst ∧ True →
                                                        I y_1 z →
                                                          (decide (y_1.fst < (↑(List.length x.fst) : Int)) = true →
                                                              ((0 : Int) ≤ y_1.fst ∧ y_1.fst < (↑(List.length x.fst) : Int)) ∧
                                                                (0 : Nat) < (1 : Nat) ∧
                                                                  (List.length z.fst + List.length (List.getD x.fst (Int.toNat y_1.fst) (Kd.dft (Kd.sl (Kd.int IntKind.u8))))) * (1 : Nat) ≤
                                                                      (140737488355328 : Nat) ∧
                                                                    List.length z.fst + List.length (List.getD x.fst (Int.toNat y_1.fst) (Kd.dft (Kd.sl (Kd.int IntKind.u8)))) ≤
                                                                        (9223372036854775807 : Nat) ∧
                                                                      (↑(List.length x.fst) : Int) = (↑(List.length x.fst) : Int) ∧
                                                                        x.fst = x.fst ∧
                                                                          Value.bool false = Value.bool false ∧
                                                                            y.fst = y.fst ∧
                                                                              (↑(List.length x.fst) : Int) = (↑(List.length x.fst) : Int) ∧
                                                                                x.fst = x.fst ∧
                                                                                  y.snd.fst = y.snd.fst ∧
                                                                                    Value.slice none (0 : Nat) (0 : Nat) = Value.slice none (0 : Nat) (0 : Nat) ∧
                                                                                      x.fst = x.fst ∧
                                                                                        I (IntKind.wrap IntKind.i64 (y_1.fst + (1 : Int)), ())
                                                                                            (z.fst ++ List.getD x.fst (Int.toNat y_1.fst) (Kd.dft (Kd.sl (Kd.int IntKind.u8))), ()) ∧
                                                                                          μ (IntKind.wrap IntKind.i64 (y_1.fst + (1 : Int)), ())
                                                                                              (z.fst ++ List.getD x.fst (Int.toNat y_1.fst) (Kd.dft (Kd.sl (Kd.int IntKind.u8))), ()) <
                                                                                            μ y_1 z) ∧
                                                            (decide (y_1.fst < (↑(List.length x.fst) : Int)) = false → z.fst = List.flatten x.fst)) ∧
                                (decide ((0 : Int) < IntKind.wrap IntKind.i64 (y.snd.fst - IntKind.wrap IntKind.i64 ((0 : Int) - (0 : Int)))) = false →
                                  ∃ (I : Int × Unit → List Int × Unit → Prop),
                                    ∃ (μ : Int × Unit → List Int × Unit → Nat),
                                      ((↑(List.length x.fst) : Int) = (↑(List.length x.fst) : Int) ∧
                                          x.fst = x.fst ∧
                                            Value.bool false = Value.bool false ∧
                                              y.fst = y.fst ∧
                                                (↑(List.length x.fst) : Int) = (↑(List.length x.fst) : Int) ∧
                                                  x.fst = x.fst ∧
                                                    y.snd.fst = y.snd.fst ∧ Value.slice none (0 : Nat) (0 : Nat) = Value.slice none (0 : Nat) (0 : Nat) ∧ x.fst = x.fst ∧ I ((0 : Int), ()) ([], ())) ∧
                                        ∀ (y_1 : Int × Unit) (z : List Int × Unit),
                                          Kd.wf (Kd.int IntKind.i64) y_1.fst ∧ True →
                                            Kd.wf (Kd.sl (Kd.int IntKind.u8)) z.fst ∧ True →
                                              I y_1 z →
                                                (decide (y_1.fst < (↑(List.length x.fst) : Int)) = true →
                                                    ((0 : Int) ≤ y_1.fst ∧ y_1.fst < (↑(List.length x.fst) : Int)) ∧
                                                      (0 : Nat) < (1 : Nat) ∧
                                                        (List.length z.fst + List.length (List.getD x.fst (Int.toNat y_1.fst) (Kd.dft (Kd.sl (Kd.int IntKind.u8))))) * (1 : Nat) ≤
                                                            (140737488355328 : Nat) ∧
                                                          List.length z.fst + List.length (List.getD x.fst (Int.toNat y_1.fst) (Kd.dft (Kd.sl (Kd.int IntKind.u8)))) ≤ (9223372036854775807 : Nat) ∧
                                                            (↑(List.length x.fst) : Int) = (↑(List.length x.fst) : Int) ∧
                                                              x.fst = x.fst ∧
                                                                Value.bool false = Value.bool false ∧
                                                                  y.fst = y.fst ∧
                                                                    (↑(List.length x.fst) : Int) = (↑(List.length x.fst) : Int) ∧
                                                                      x.fst = x.fst ∧
                                                                        y.snd.fst = y.snd.fst ∧
                                                                          Value.slice none (0 : Nat) (0 : Nat) = Value.slice none (0 : Nat) (0 : Nat) ∧
                                                                            x.fst = x.fst ∧
                                                                              I (IntKind.wrap IntKind.i64 (y_1.fst + (1 : Int)), ())
                                                                                  (z.fst ++ List.getD x.fst (Int.toNat y_1.fst) (Kd.dft (Kd.sl (Kd.int IntKind.u8))), ()) ∧
                                                                                μ (IntKind.wrap IntKind.i64 (y_1.fst + (1 : Int)), ())
                                                                                    (z.fst ++ List.getD x.fst (Int.toNat y_1.fst) (Kd.dft (Kd.sl (Kd.int IntKind.u8))), ()) <
                                                                                  μ y_1 z) ∧
                                                  (decide (y_1.fst < (↑(List.length x.fst) : Int)) = false → z.fst = List.flatten x.fst))))
theorem e28 : t28 = Con.vc c28 GL (mkEnv ty [(42, i42)] [] [] [0, 2, 3, 5, 6, 8, 9, 10, 11, 12, 20, 25, 26, 27, 28]) {} Tryd.f28.ntmps Tryd.f28.results.toList (bodyOf Tryd.f28) := by kernel_rfl
theorem k28 : t28 := by
  unfold t28
  rintro ⟨xs, _⟩ hx ⟨hp1, hp2⟩
  have hp1 : xs.length ≤ 100 := hp1
  have hb := flat_bound xs hp1 hp2
  simp only [true_and, and_true, eq_self_iff_true, implies_true, reduceCtorEq, false_implies, true_implies, decide_eq_true_eq, decide_eq_false_iff_not, beq_self_eq_true, Bool.not_eq_true', ne_eq, Decidable.not_not, List.nil_append, List.length_singleton, List.length_cons, List.length_nil, Nat.zero_add, Nat.add_zero, Nat.mul_one, and_self, beq_iff_eq, Bool.not_true, Bool.not_false, Bool.not_eq_false', Bool.cond_false_right, Bool.and_eq_true, imp_self, Bool.not_eq_true, Bool.cond_true_left, Bool.or_eq_true]
  have dft : Kd.dft (Kd.sl (Kd.int IntKind.u8)) = ([] : List Int) := rfl
  simp only [dft]
  refine ⟨fun y z => 0 ≤ y.1 ∧ y.1 ≤ xs.length ∧ y.2.1 = ((xs.take y.1.toNat).flatten.length : Int), fun y z => xs.length - y.1.toNat, ⟨by simp, by simp, by simp⟩, ?_⟩
  rintro ⟨i, s, _⟩ z hy ⟨h0, h1, h2⟩
  simp only at h0 h1 h2 ⊢
  have hs := hb i.toNat
  refine ⟨fun hlt => ?_, fun hge => ⟨fun h => by omega, fun _ => ⟨fun hpos => ?_, fun _ => flat_loop xs hp1 hb [] rfl⟩⟩⟩
  · have e := take_flat xs i.toNat (by omega)
    have hl := hb (i.toNat + 1)
    rw [e, List.length_append] at hl
    have hw : IntKind.wrap .i64 (i + 1) = i + 1 := wrapk _ (by omega) (by omega)
    have hw2 : IntKind.wrap .i64 (s + ((xs.getD i.toNat []).length : Int)) = s + ((xs.getD i.toNat []).length : Int) := wrapk _ (by omega) (by omega)
    rw [hw, hw2]
    refine ⟨⟨h0, hlt⟩, fun h => by omega, fun _ => ⟨⟨by omega, by omega, ?_⟩, by omega⟩⟩
    rw [show (i + 1).toNat = i.toNat + 1 by omega, e, List.length_append]
    omega
  · have hw3 : IntKind.wrap .i64 (s - IntKind.wrap .i64 (0 - 0)) = s := by rw [show IntKind.wrap .i64 (0 - 0) = 0 by decide, wrapk _ (by omega) (by omega)]; omega
    rw [hw3] at hpos ⊢
    exact ⟨by decide, hpos, by omega, ⟨by omega, by omega⟩, flat_loop xs hp1 hb _ (by simp)⟩
theorem h28 : c28.ok Tryd.prog GL 28 := con_ok (H := {}) (mkEnv_ok (gl := GL) (l := [(42, i42)]) (q := []) (d := []) _ tyOk (by kernel_rfl) ⟨i42_ok, trivial⟩ trivial trivial) (by kernel_rfl) (by kernel_rfl) (Eq.mp e28 k28)

def t38 : Prop :=
  ∀ (x : List Int × Int × Unit),
    Kd.wf (Kd.sl (Kd.int IntKind.u8)) x.fst ∧ Kd.wf (Kd.int IntKind.u8) x.snd.fst ∧ True →
      True →
        ∃ (I : List Int × Unit → Unit → Prop),
          ∃ (μ : List Int × Unit → Unit → Nat),
            (Value.slice none (0 : Nat) (0 : Nat) = Value.slice none (0 : Nat) (0 : Nat) ∧ x.snd.fst = x.snd.fst ∧ I (x.fst, ()) ()) ∧
              ∀ (y : List Int × Unit) (z : Unit),
                Kd.wf (Kd.sl (Kd.int IntKind.u8)) y.fst ∧ True →
                  True →
                    I y z →
                      (decide ((0 : Int) < (↑(List.length y.fst) : Int)) = true → True) ∧
                        (decide ((0 : Int) < (↑(List.length y.fst) : Int)) = true →
                            (decide ((0 : Int) < (↑(List.length y.fst) : Int)) == true) = true ∧ ((0 : Int) ≤ (0 : Int) ∧ (0 : Int) < (↑(List.length y.fst) : Int)) ∧ True) ∧
                          (decide ((0 : Int) < (↑(List.length y.fst) : Int)) = true → (decide ((0 : Int) < (↑(List.length y.fst) : Int)) == true) = true ∧ True) ∧
                            (decide ((0 : Int) < (↑(List.length y.fst) : Int)) = true → True) ∧
                              (decide ((0 : Int) < (↑(List.length y.fst) : Int)) = true →
                                  (decide ((0 : Int) < (↑(List.length y.fst) : Int)) == true) = true ∧ (decide ((0 : Int) < (↑(List.length y.fst) : Int)) == true) = true ∧ True) ∧
                                (decide ((0 : Int) < (↑(List.length y.fst) : Int)) = true → (decide ((0 : Int) < (↑(List.length y.fst) : Int)) == true) = true) ∧
                                  ((bif decide ((0 : Int) < (↑(List.length y.fst) : Int)) then decide (List.getD y.fst (0 : Nat) (Kd.dft (Kd.int IntKind.u8)) = x.snd.fst) else false) = true →
                                      ((0 : Int) ≤ (1 : Int) ∧ (1 : Int) ≤ (↑(List.length y.fst) : Int)) ∧
                                        Value.slice none (0 : Nat) (0 : Nat) = Value.slice none (0 : Nat) (0 : Nat) ∧
                                          x.snd.fst = x.snd.fst ∧ I (List.drop (1 : Nat) y.fst, ()) () ∧ μ (List.drop (1 : Nat) y.fst, ()) () < μ y z) ∧
                                    ((bif decide ((0 : Int) < (↑(List.length y.fst) : Int)) then decide (List.getD y.fst (0 : Nat) (Kd.dft (Kd.int IntKind.u8)) = x.snd.fst) else false) = false →
                                      (decide ((↑(List.length y.fst) : Int) = (0 : Int)) = true → [] = List.dropWhile (fun (b : Int) => decide (b = x.snd.fst)) x.fst) ∧
                                        (decide ((↑(List.length y.fst) : Int) = (0 : Int)) = false → y.fst = List.dropWhile (fun (b : Int) => decide (b = x.snd.fst)) x.fst))
theorem e38 : t38 = Con.vc c38 GL (mkEnv ty [] [] [] [0, 1, 4, 14, 19]) {} Tryd.f38.ntmps Tryd.f38.results.toList (bodyOf Tryd.f38) := by kernel_rfl
theorem k38 : t38 := by
  unfold t38
  rintro ⟨l, b, _⟩ hx hp
  try dsimp +instances only [dft_int, dft_sl, dft_str]
  simp only [true_and, and_true, eq_self_iff_true, implies_true, reduceCtorEq, false_implies, true_implies, decide_eq_true_eq, decide_eq_false_iff_not, beq_self_eq_true, Bool.not_eq_true', ne_eq, Decidable.not_not, List.nil_append, List.length_singleton, List.length_cons, List.length_nil, Nat.zero_add, Nat.add_zero, Nat.mul_one, and_self, beq_iff_eq, Bool.not_true, Bool.not_false, Bool.not_eq_false', Bool.cond_false_right, Bool.and_eq_true, imp_self, Bool.not_eq_true, Bool.cond_true_left, Bool.or_eq_true]
  refine ⟨fun y _ => l.dropWhile (fun c => decide (c = b)) = y.1.dropWhile (fun c => decide (c = b)), fun y _ => y.1.length, rfl, ?_⟩
  rintro ⟨m, _⟩ z _ hI
  simp only at hI ⊢
  cases m with
  | nil => exact ⟨fun h => absurd h (by decide), fun h => absurd h.1 (by decide), fun _ => ⟨fun _ => by rw [hI]; rfl, fun h => absurd rfl h⟩⟩
  | cons a r =>
    simp only [List.getD_cons_zero]
    refine ⟨fun h => ⟨h, by omega, h⟩, fun h => ⟨⟨by omega, by simp; omega⟩, ?_, by simp⟩, fun h => ⟨fun h0 => by simp at h0; omega, fun _ => ?_⟩⟩
    · rw [hI, List.dropWhile_cons, if_pos (by simpa using h.2)]; rfl
    · have hne : ¬ a = b := by
        intro e
        subst e
        simp at h
      rw [hI, List.dropWhile_cons, if_neg (by simpa using hne)]
theorem h38 : c38.ok Tryd.prog GL 38 := con_ok (H := {}) (mkEnv_ok (gl := GL) (l := []) (q := []) (d := []) _ tyOk (by kernel_rfl) trivial trivial trivial) (by kernel_rfl) (by kernel_rfl) (Eq.mp e38 k38)

def t27 : Prop :=
  ∀ (x : List Int × List Int × Unit),
    Kd.wf (Kd.sl (Kd.int IntKind.u8)) x.fst ∧ Kd.wf Kd.str x.snd.fst ∧ True →
      x.snd.fst = [(0 : Int)] →
        (decide ((↑(List.length x.fst) : Int) = (0 : Int)) = true → [] = trimD x.fst) ∧
          (decide ((↑(List.length x.fst) : Int) = (0 : Int)) = false →
            (decide (x.snd.fst = bs { data := #[] }) = true → x.fst = trimD x.fst) ∧
              (decide (x.snd.fst = bs { data := #[] }) = false →
                (decide ((↑(List.length x.snd.fst) : Int) = (1 : Int)) = true → True) ∧
                  (decide ((↑(List.length x.snd.fst) : Int) = (1 : Int)) = true →
                      (decide ((↑(List.length x.snd.fst) : Int) = (1 : Int)) == true) = true ∧ ((0 : Int) ≤ (0 : Int) ∧ (0 : Int) < (↑(List.length x.snd.fst) : Int)) ∧ True) ∧
                    (decide ((↑(List.length x.snd.fst) : Int) = (1 : Int)) = true → (decide ((↑(List.length x.snd.fst) : Int) = (1 : Int)) == true) = true ∧ True) ∧
                      (decide ((↑(List.length x.snd.fst) : Int) = (1 : Int)) = true → (decide ((↑(List.length x.snd.fst) : Int) = (1 : Int)) == true) = true) ∧
                        ((bif decide ((↑(List.length x.snd.fst) : Int) = (1 : Int)) then decide (List.getD x.snd.fst (0 : Nat) (0 : Int) < (128 : Int)) else false) = true →
                            ((0 : Int) ≤ (0 : Int) ∧ (0 : Int) < (↑(List.length x.snd.fst) : Int)) ∧
                              True ∧
                                (∀ (y : List Int × Unit),
                                    Kd.wf (Kd.sl (Kd.int IntKind.u8)) y.fst ∧ True →
                                      y.fst = List.dropWhile (fun (b : Int) => decide (b = List.getD x.snd.fst (0 : Nat) (0 : Int))) x.fst → y.fst = trimD x.fst) ∧
                                  True) ∧
                          ((bif decide ((↑(List.length x.snd.fst) : Int) = (1 : Int)) then decide (List.getD x.snd.fst (0 : Nat) (0 : Int) < (128 : Int)) else false) = false → False)))
theorem e27 : t27 = Con.vc c27 GL (mkEnv ty [(38, conSem c38)] [] [] [0, 1, 4, 5, 6, 9, 11, 20, 30]) {} Tryd.f27.ntmps Tryd.f27.results.toList (bodyOf Tryd.f27) := by kernel_rfl
theorem k27 : t27 := by
  unfold t27
  rintro ⟨l, s, _⟩ hx hp
  obtain rfl : s = [0] := hp
  try dsimp +instances only [dft_int, dft_sl, dft_str]
  simp only [true_and, and_true, eq_self_iff_true, implies_true, reduceCtorEq, false_implies, true_implies, decide_eq_true_eq, decide_eq_false_iff_not, beq_self_eq_true, Bool.not_eq_true', ne_eq, Decidable.not_not, List.nil_append, List.length_singleton, List.length_cons, List.length_nil, Nat.zero_add, Nat.add_zero, Nat.mul_one, and_self, beq_iff_eq, Bool.not_true, Bool.not_false, Bool.not_eq_false', Bool.cond_false_right, Bool.and_eq_true, imp_self, Bool.not_eq_true, Bool.cond_true_left, Bool.or_eq_true]
  refine ⟨fun h => ?_, fun h => ⟨fun h2 => absurd h2 (by decide), fun _ => ⟨fun _ => ⟨by decide, by decide, by decide⟩, fun _ => ⟨⟨by decide, by decide⟩, fun y _ ey => ey⟩, fun h2 => by simp at h2⟩⟩⟩
  rw [List.eq_nil_of_length_eq_zero (by omega : l.length = 0)]
  rfl
theorem h27 : c27.ok Tryd.prog GL 27 := con_ok (H := {}) (mkEnv_ok (gl := GL) (l := [(38, conSem c38)]) (q := []) (d := []) _ tyOk (by kernel_rfl) ⟨h38.call, trivial⟩ trivial trivial) (by kernel_rfl) (by kernel_rfl) (Eq.mp e27 k27)

def t30 : Prop :=
  ∀ (x : List Int × Unit),
    Kd.wf (Kd.sl (Kd.int IntKind.u8)) x.fst ∧ True →
      List.length x.fst ≤ (2000000 : Nat) →
        ∃ (I : Int × Unit → Unit → Prop),
          ∃ (μ : Int × Unit → Unit → Nat),
            (Value.slice none (0 : Nat) (0 : Nat) = Value.slice none (0 : Nat) (0 : Nat) ∧ x.fst = x.fst ∧ I ((0 : Int), ()) ()) ∧
              ∀ (y : Int × Unit) (z : Unit),
                Kd.wf (Kd.int IntKind.i64) y.fst ∧ True →
                  True →
                    I y z →
                      (decide (y.fst < (↑(List.length x.fst) : Int)) = true → True) ∧
                        (decide (y.fst < (↑(List.length x.fst) : Int)) = true → True) ∧
                          (decide (y.fst < (↑(List.length x.fst) : Int)) = true →
                              (decide (y.fst < (↑(List.length x.fst) : Int)) == true) = true ∧
                                (decide (y.fst < (↑(List.length x.fst) : Int)) == true) = true ∧ ((0 : Int) ≤ y.fst ∧ y.fst < (↑(List.length x.fst) : Int)) ∧ True) ∧
                            (decide (y.fst < (↑(List.length x.fst) : Int)) = true → (decide (y.fst < (↑(List.length x.fst) : Int)) == true) = true ∧ True) ∧
                              (decide (y.fst < (↑(List.length x.fst) : Int)) = true → (decide (y.fst < (↑(List.length x.fst) : Int)) == true) = true ∧ True) ∧
                                (decide (y.fst < (↑(List.length x.fst) : Int)) = true → (decide (y.fst < (↑(List.length x.fst) : Int)) == true) = true) ∧
                                  ((bif decide (y.fst < (↑(List.length x.fst) : Int)) then decide (List.getD x.fst (Int.toNat y.fst) (Kd.dft (Kd.int IntKind.u8)) = (0 : Int)) else false) = true →
                                      Value.slice none (0 : Nat) (0 : Nat) = Value.slice none (0 : Nat) (0 : Nat) ∧
                                        x.fst = x.fst ∧ I (IntKind.wrap IntKind.i64 (y.fst + (1 : Int)), ()) () ∧ μ (IntKind.wrap IntKind.i64 (y.fst + (1 : Int)), ()) () < μ y z) ∧
                                    ((bif decide (y.fst < (↑(List.length x.fst) : Int)) then decide (List.getD x.fst (Int.toNat y.fst) (Kd.dft (Kd.int IntKind.u8)) = (0 : Int)) else false) = false →
                                      ((0 : Int) ≤ y.fst ∧ y.fst ≤ (↑(List.length x.fst) : Int)) ∧
                                        (0 : Nat) < (1 : Nat) ∧
                                          ((0 : Nat) + List.length (List.drop (Int.toNat y.fst) x.fst)) * (1 : Nat) ≤ (140737488355328 : Nat) ∧
                                            (0 : Nat) + List.length (List.drop (Int.toNat y.fst) x.fst) ≤ (9223372036854775807 : Nat) ∧ [] ++ List.drop (Int.toNat y.fst) x.fst = trimD x.fst)
theorem e30 : t30 = Con.vc c30 GL (mkEnv ty [] [] [] [0, 2, 3, 14]) {} Tryd.f30.ntmps Tryd.f30.results.toList (bodyOf Tryd.f30) := by kernel_rfl
theorem k30 : t30 := by
  unfold t30
  rintro ⟨l, _⟩ hx hp
  have hp : l.length ≤ 2000000 := hp
  try dsimp +instances only [dft_int, dft_sl, dft_str]
  simp only [true_and, and_true, eq_self_iff_true, implies_true, reduceCtorEq, false_implies, true_implies, decide_eq_true_eq, decide_eq_false_iff_not, beq_self_eq_true, Bool.not_eq_true', ne_eq, Decidable.not_not, List.nil_append, List.length_singleton, List.length_cons, List.length_nil, Nat.zero_add, Nat.add_zero, Nat.mul_one, and_self, beq_iff_eq, Bool.not_true, Bool.not_false, Bool.not_eq_false', Bool.cond_false_right, Bool.and_eq_true, imp_self, Bool.not_eq_true, Bool.cond_true_left, Bool.or_eq_true]
  refine ⟨fun y _ => 0 ≤ y.1 ∧ y.1 ≤ l.length ∧ trimD l = trimD (l.drop y.1.toNat), fun y _ => l.length - y.1.toNat, ⟨by simp, by simp, by simp⟩, ?_⟩
  rintro ⟨i, _⟩ z _ ⟨h0, h1, h2⟩
  simp only at h0 h1 h2 ⊢
  have hd : (l.drop i.toNat).length ≤ l.length := by simp
  refine ⟨fun h => ⟨h, h, h0, h⟩, fun h => ?_, fun h => ⟨⟨h0, h1⟩, by decide, by omega, by omega, ?_⟩⟩
  · have hw : IntKind.wrap .i64 (i + 1) = i + 1 := wrapk _ (by omega) (by omega)
    rw [hw]
    refine ⟨⟨by omega, by omega, ?_⟩, by omega⟩
    rw [h2, trim_step l i.toNat (by omega) h.2, show (i + 1).toNat = i.toNat + 1 by omega]
  · rw [h2, trim_stop]
    intro hi e
    simp only [e] at h
    simp at h
    omega
theorem h30 : c30.ok Tryd.prog GL 30 := con_ok (H := {}) (mkEnv_ok (gl := GL) (l := []) (q := []) (d := []) _ tyOk (by kernel_rfl) trivial trivial trivial) (by kernel_rfl) (by kernel_rfl) (Eq.mp e30 k30)

def t9 : Prop :=
  ∀ (x : List Int × Unit),
    Kd.wf (Kd.sl (Kd.int IntKind.u8)) x.fst ∧ True →
      List.length x.fst ≤ (2000000 : Nat) →
        bs { data := #[(0 : UInt8)] } = [(0 : Int)] ∧
          (∀ (y : List Int × Unit),
              Kd.wf (Kd.sl (Kd.int IntKind.u8)) y.fst ∧ True →
                y.fst = trimD x.fst →
                  (decide ((↑(List.length y.fst) : Int) = (0 : Int)) = false → True) ∧
                    (decide ((↑(List.length y.fst) : Int) = (0 : Int)) = false →
                        (decide ((↑(List.length y.fst) : Int) = (0 : Int)) == false) = true ∧ ((0 : Int) ≤ (0 : Int) ∧ (0 : Int) < (↑(List.length y.fst) : Int)) ∧ True) ∧
                      (decide ((↑(List.length y.fst) : Int) = (0 : Int)) = false → (decide ((↑(List.length y.fst) : Int) = (0 : Int)) == false) = true ∧ True) ∧
                        (decide ((↑(List.length y.fst) : Int) = (0 : Int)) = false → (decide ((↑(List.length y.fst) : Int) = (0 : Int)) == false) = true ∧ True) ∧
                          (decide ((↑(List.length y.fst) : Int) = (0 : Int)) = false → (decide ((↑(List.length y.fst) : Int) = (0 : Int)) == false) = true) ∧
                            ((bif decide ((↑(List.length y.fst) : Int) = (0 : Int)) then true else decide ((128 : Int) ≤ List.getD y.fst (0 : Nat) (Kd.dft (Kd.int IntKind.u8)))) = true →
                                (List.length [[(0 : Int)], y.fst] ≤ (100 : Nat) ∧ ∀ (l : List Int), l ∈ [[(0 : Int)], y.fst] → List.length l ≤ (10000000 : Nat)) ∧
                                  (∀ (y_1 : List Int × Unit), Kd.wf (Kd.sl (Kd.int IntKind.u8)) y_1.fst ∧ True → y_1.fst = List.flatten [[(0 : Int)], y.fst] → y_1.fst = NatD x.fst) ∧ True) ∧
                              ((bif decide ((↑(List.length y.fst) : Int) = (0 : Int)) then true else decide ((128 : Int) ≤ List.getD y.fst (0 : Nat) (Kd.dft (Kd.int IntKind.u8)))) = false →
                                List.length y.fst ≤ (1000000000 : Nat) ∧
                                  (∀ (y_1 : List Int × Unit), Kd.wf (Kd.sl (Kd.int IntKind.u8)) y_1.fst ∧ True → y_1.fst = y.fst → y_1.fst = NatD x.fst) ∧ True)) ∧
            True
theorem e9 : t9 = Con.vc c9 GL (mkEnv ty [(27, conSem c27), (28, conSem c28), (29, conSem c29)] [] [] [0, 2, 13]) {} Tryd.f9.ntmps Tryd.f9.results.toList (bodyOf Tryd.f9) := by kernel_rfl
theorem k9 : t9 := by
  unfold t9
  rintro ⟨l, _⟩ hx hp
  have hp : l.length ≤ 2000000 := hp
  try dsimp +instances only [dft_int, dft_sl, dft_str]
  simp only [true_and, and_true, eq_self_iff_true, implies_true, reduceCtorEq, false_implies, true_implies, decide_eq_true_eq, decide_eq_false_iff_not, beq_self_eq_true, Bool.not_eq_true', ne_eq, Decidable.not_not, List.nil_append, List.length_singleton, List.length_cons, List.length_nil, Nat.zero_add, Nat.add_zero, Nat.mul_one, and_self, beq_iff_eq, Bool.not_true, Bool.not_false, Bool.not_eq_false', Bool.cond_false_right, Bool.and_eq_true, imp_self, Bool.not_eq_true, Bool.cond_true_left, Bool.or_eq_true]
  refine ⟨by decide, ?_⟩
  rintro ⟨r, _⟩ _ er
  have er : r = trimD l := er
  have hlen : r.length ≤ 2000000 := by rw [er]; have := trim_le l; omega
  have key : (if 128 ≤ r.headD 128 then 0 :: r else r) = NatD l := by rw [er]; rfl
  simp only
  refine ⟨fun h => ⟨h, by omega, by omega⟩, fun h => ⟨⟨by decide, fun m hm => ?_⟩, fun y _ ey => ?_⟩, fun h => ⟨by omega, fun y _ ey => ?_⟩⟩
  · simp at hm
    rcases hm with rfl | rfl
    · simp
    · omega
  · rw [← key, if_pos]
    · simpa using ey
    · cases r with
      | nil => decide
      | cons a t => simp at h ⊢; omega
  · rw [← key, if_neg]
    · exact ey
    · cases r with
      | nil => simp at h
      | cons a t => simp at h ⊢; omega
theorem h9 : c9.ok Tryd.prog GL 9 := con_ok (H := {}) (mkEnv_ok (gl := GL) (l := [(27, conSem c27), (28, conSem c28), (29, conSem c29)]) (q := []) (d := []) _ tyOk (by kernel_rfl) ⟨h27.call, h28.call, h29.call, trivial⟩ trivial trivial) (by kernel_rfl) (by kernel_rfl) (Eq.mp e9 k9)

def t10 : Prop :=
  ∀ (x : List Int × Unit),
    Kd.wf (Kd.sl (Kd.int IntKind.u8)) x.fst ∧ True →
      List.length x.fst ≤ (2000000 : Nat) →
        List.length x.fst ≤ (2000000 : Nat) ∧
          (∀ (y : List Int × Unit),
              Kd.wf (Kd.sl (Kd.int IntKind.u8)) y.fst ∧ True →
                y.fst = trimD x.fst →
                  (decide ((↑(List.length y.fst) : Int) = (0 : Int)) = false → True) ∧
                    (decide ((↑(List.length y.fst) : Int) = (0 : Int)) = false →
                        (decide ((↑(List.length y.fst) : Int) = (0 : Int)) == false) = true ∧ ((0 : Int) ≤ (0 : Int) ∧ (0 : Int) < (↑(List.length y.fst) : Int)) ∧ True) ∧
                      (decide ((↑(List.length y.fst) : Int) = (0 : Int)) = false → (decide ((↑(List.length y.fst) : Int) = (0 : Int)) == false) = true ∧ True) ∧
                        (decide ((↑(List.length y.fst) : Int) = (0 : Int)) = false → (decide ((↑(List.length y.fst) : Int) = (0 : Int)) == false) = true ∧ True) ∧
                          (decide ((↑(List.length y.fst) : Int) = (0 : Int)) = false → (decide ((↑(List.length y.fst) : Int) = (0 : Int)) == false) = true) ∧
                            ((bif decide ((↑(List.length y.fst) : Int) = (0 : Int)) then true else decide ((128 : Int) ≤ List.getD y.fst (0 : Nat) (Kd.dft (Kd.int IntKind.u8)))) = true →
                                (0 : Nat) < (1 : Nat) ∧
                                  ((1 : Nat) + List.length y.fst) * (1 : Nat) ≤ (140737488355328 : Nat) ∧
                                    (1 : Nat) + List.length y.fst ≤ (9223372036854775807 : Nat) ∧ [(0 : Int)] ++ y.fst = NatD x.fst) ∧
                              ((bif decide ((↑(List.length y.fst) : Int) = (0 : Int)) then true else decide ((128 : Int) ≤ List.getD y.fst (0 : Nat) (Kd.dft (Kd.int IntKind.u8)))) = false →
                                y.fst = NatD x.fst)) ∧
            True
theorem e10 : t10 = Con.vc c10 GL (mkEnv ty [(30, conSem c30)] [] [] [0, 2, 3, 14]) {} Tryd.f10.ntmps Tryd.f10.results.toList (bodyOf Tryd.f10) := by kernel_rfl
theorem k10 : t10 := by
  unfold t10
  rintro ⟨l, _⟩ hx hp
  have hp : l.length ≤ 2000000 := hp
  try dsimp +instances only [dft_int, dft_sl, dft_str]
  simp only [true_and, and_true, eq_self_iff_true, implies_true, reduceCtorEq, false_implies, true_implies, decide_eq_true_eq, decide_eq_false_iff_not, beq_self_eq_true, Bool.not_eq_true', ne_eq, Decidable.not_not, List.nil_append, List.length_singleton, List.length_cons, List.length_nil, Nat.zero_add, Nat.add_zero, Nat.mul_one, and_self, beq_iff_eq, Bool.not_true, Bool.not_false, Bool.not_eq_false', Bool.cond_false_right, Bool.and_eq_true, imp_self, Bool.not_eq_true, Bool.cond_true_left, Bool.or_eq_true]
  refine ⟨hp, ?_⟩
  rintro ⟨r, _⟩ _ er
  have er : r = trimD l := er
  have hlen : r.length ≤ 2000000 := by rw [er]; have := trim_le l; omega
  have key : (if 128 ≤ r.headD 128 then 0 :: r else r) = NatD l := by rw [er]; rfl
  simp only
  refine ⟨fun h => ⟨h, by omega, by omega⟩, fun h => ⟨by decide, by omega, by omega, ?_⟩, fun h => ?_⟩
  · rw [← key, if_pos]
    · rfl
    · cases r with
      | nil => decide
      | cons a t => simp at h ⊢; omega
  · rw [← key, if_neg]
    cases r with
    | nil => simp at h
    | cons a t => simp at h ⊢; omega
theorem h10 : c10.ok Tryd.prog GL 10 := con_ok (H := {}) (mkEnv_ok (gl := GL) (l := [(30, conSem c30)]) (q := []) (d := []) _ tyOk (by kernel_rfl) ⟨h30.call, trivial⟩ trivial trivial) (by kernel_rfl) (by kernel_rfl) (Eq.mp e10 k10)

noncomputable def i7 : CallSem := vcFn (mkEnv ty [] [] [] [0, 2]) {} Tryd.f7.ntmps Tryd.f7.results.toList (bodyOf Tryd.f7)
theorem i7_ok : CallOk Tryd.prog GL 7 i7 := inl_ok {} (mkEnv_ok (gl := GL) (l := []) (q := []) (d := []) _ tyOk (by kernel_rfl) trivial trivial trivial) (by kernel_rfl) (by kernel_rfl)

noncomputable def i11 : CallSem := vcFn (mkEnv ty [] [] [] [0, 1, 4]) {} Tryd.f11.ntmps Tryd.f11.results.toList (bodyOf Tryd.f11)
theorem i11_ok : CallOk Tryd.prog GL 11 i11 := inl_ok {} (mkEnv_ok (gl := GL) (l := []) (q := []) (d := []) _ tyOk (by kernel_rfl) trivial trivial trivial) (by kernel_rfl) (by kernel_rfl)

def t3 : Prop :=
  ∀ (x : List Int × Unit),
    Kd.wf (Kd.sl (Kd.int IntKind.u8)) x.fst ∧ True →
      ABulk [AK.dat (Kd.sl (Kd.int IntKind.u8))] x ≤ (1048576 : Nat) →
        (0 : Nat) < (1 : Nat) ∧
          ((0 : Nat) + List.length x.fst) * (1 : Nat) ≤ (140737488355328 : Nat) ∧
            (0 : Nat) + List.length x.fst ≤ (9223372036854775807 : Nat) ∧
              (0 : Nat) < (1 : Nat) ∧
                (List.length ([] ++ x.fst) + (1 : Nat)) * (1 : Nat) ≤ (140737488355328 : Nat) ∧
                  List.length ([] ++ x.fst) + (1 : Nat) ≤ (9223372036854775807 : Nat) ∧
                    ((0 : Int) ≤ (↑(List.length x.fst) : Int) ∧ (↑(List.length x.fst) : Int) ≤ (↑(List.length ([] ++ x.fst ++ [(90 : Int)])) : Int)) ∧
                      List.length (List.take (Int.toNat (↑(List.length x.fst) : Int) - (0 : Nat)) (List.drop (0 : Nat) ([] ++ x.fst ++ [(90 : Int)]))) ≤ (2000000 : Nat) ∧
                        (∀ (y : List Int × Unit),
                            Kd.wf (Kd.sl (Kd.int IntKind.u8)) y.fst ∧ True →
                              y.fst = NatD (List.take (Int.toNat (↑(List.length x.fst) : Int) - (0 : Nat)) (List.drop (0 : Nat) ([] ++ x.fst ++ [(90 : Int)]))) →
                                List.length (List.take (Int.toNat (↑(List.length x.fst) : Int) - (0 : Nat)) (List.drop (0 : Nat) ([] ++ x.fst ++ [(90 : Int)]))) ≤ (2000000 : Nat) ∧
                                  (∀ (y_1 : List Int × Unit),
                                      Kd.wf (Kd.sl (Kd.int IntKind.u8)) y_1.fst ∧ True →
                                        y_1.fst = NatD (List.take (Int.toNat (↑(List.length x.fst) : Int) - (0 : Nat)) (List.drop (0 : Nat) ([] ++ x.fst ++ [(90 : Int)]))) →
                                          List.length x.fst ≤ (2000000 : Nat) ∧
                                            (∀ (y_2 : List Int × Unit),
                                                Kd.wf (Kd.sl (Kd.int IntKind.u8)) y_2.fst ∧ True →
                                                  y_2.fst = NatD x.fst →
                                                    List.length y.fst ≤ (1000000000 : Nat) ∧
                                                      (∀ (y_3 : Bool × Unit),
                                                          Kd.wf Kd.bool y_3.fst ∧ True →
                                                            (y.fst = y_2.fst → y_1.fst = y_2.fst → y_3.fst = true) →
                                                              (y_3.fst = true → True) ∧
                                                                (y_3.fst = true → True) ∧
                                                                  (y_3.fst = true →
                                                                      (y_3.fst == true) = true ∧
                                                                        (y_3.fst == true) = true ∧
                                                                          ((0 : Int) ≤ IntKind.wrap IntKind.i64 ((↑(List.length x.fst) : Int) + (1 : Int)) ∧
                                                                              IntKind.wrap IntKind.i64 ((↑(List.length x.fst) : Int) + (1 : Int)) ≤
                                                                                (↑(List.length ([] ++ x.fst ++ [(90 : Int)]) - (0 : Nat)) : Int)) ∧
                                                                            List.length x.fst + (1 : Nat) ≤ (9223372036854775807 : Nat) ∧
                                                                              (decide
                                                                                      (List.take (Int.toNat (IntKind.wrap IntKind.i64 ((↑(List.length x.fst) : Int) + (1 : Int))) - (0 : Nat))
                                                                                          (List.drop (0 : Nat) ([] ++ x.fst ++ [(90 : Int)])) =
                                                                                        x.fst ++ bs { data := #[(90 : UInt8)] }) =
                                                                                    true →
                                                                                  True ∧ (∀ (y : Bool × Unit), Kd.wf Kd.bool y.fst ∧ True → y.fst = true → y.fst = true) ∧ True) ∧
                                                                                (decide
                                                                                      (List.take (Int.toNat (IntKind.wrap IntKind.i64 ((↑(List.length x.fst) : Int) + (1 : Int))) - (0 : Nat))
                                                                                          (List.drop (0 : Nat) ([] ++ x.fst ++ [(90 : Int)])) =
                                                                                        x.fst ++ bs { data := #[(90 : UInt8)] }) =
                                                                                    !true →
                                                                                  false = true)) ∧
                                                                    (y_3.fst = !true → false = true)) ∧
                                                        True) ∧
                                              True) ∧
                                    True) ∧
                          True
theorem e3 : t3 = Con.vc c3 GL (mkEnv ty [(7, i7), (9, conSem c9), (10, conSem c10), (8, conSem c8), (11, i11), (12, conSem c12)] [] [] [0, 2, 3]) {} Tryd.f3.ntmps Tryd.f3.results.toList (bodyOf Tryd.f3) := by kernel_rfl
theorem k3 : t3 := by
  unfold t3
  rintro ⟨l, _⟩ hx hp
  have hl : l.length ≤ 1048576 := by
    simp [ABulk, AK.bulk, Kd.bulk, sum_ones] at hp
    omega
  try dsimp +instances only [dft_int, dft_sl, dft_str]
  simp only [true_and, and_true, eq_self_iff_true, implies_true, reduceCtorEq, false_implies, true_implies, decide_eq_true_eq, decide_eq_false_iff_not, beq_self_eq_true, Bool.not_eq_true', ne_eq, Decidable.not_not, List.nil_append, List.length_singleton, List.length_cons, List.length_nil, Nat.zero_add, Nat.add_zero, Nat.mul_one, and_self, beq_iff_eq, Bool.not_true, Bool.not_false, Bool.not_eq_false', Bool.cond_false_right, Bool.and_eq_true, imp_self, Bool.not_eq_true, Bool.cond_true_left, Bool.or_eq_true]
  have et : List.take ((l.length : Int).toNat - 0) (List.drop 0 (l ++ [(90 : Int)])) = l := by simp
  rw [et]
  refine ⟨by decide, by omega, by omega, by decide, by omega, by omega, ⟨by omega, by simp; omega⟩, by omega, ?_⟩
  rintro ⟨a, _⟩ hy ey
  refine ⟨by omega, ?_⟩
  rintro ⟨a2, _⟩ hy2 ey2
  refine ⟨by omega, ?_⟩
  rintro ⟨a3, _⟩ hy3 ey3
  simp only at ey ey2 ey3 hy ⊢
  have hal : a.length ≤ 1000000000 := by
    have := nat_le l
    rw [ey]; omega
  refine ⟨hal, ?_⟩
  rintro ⟨c, _⟩ hc ec
  have ec : c = true := ec (ey.trans ey3.symm) (ey2.trans ey3.symm)
  simp only [ec]
  have hw : IntKind.wrap .i64 ((l.length : Int) + 1) = l.length + 1 := wrapk _ (by omega) (by omega)
  rw [hw]
  have e90 : bs { data := #[90] } = [(90 : Int)] := by decide
  have et2 : List.take (((l.length : Int) + 1).toNat - 0) (List.drop 0 (l ++ [(90 : Int)])) = l ++ [(90 : Int)] := by
    rw [show ((l.length : Int) + 1).toNat - 0 = l.length + 1 by omega, List.drop_zero, List.take_of_length_le (by simp)]
  rw [et2, e90]
  exact ⟨fun _ => ⟨trivial, trivial, ⟨by omega, by simp⟩, by omega, fun h => h rfl⟩, fun h => by cases h⟩
theorem h3 : c3.ok Tryd.prog GL 3 := con_ok (H := {}) (mkEnv_ok (gl := GL) (l := [(7, i7), (9, conSem c9), (10, conSem c10), (8, conSem c8), (11, i11), (12, conSem c12)]) (q := []) (d := []) _ tyOk (by kernel_rfl) ⟨i7_ok, h9.call, h10.call, h8.call, i11_ok, h12.call, trivial⟩ trivial trivial) (by kernel_rfl) (by kernel_rfl) (Eq.mp e3 k3)

def t34 : Prop :=
  ∀ (x : List Int × Int × Unit),
    Kd.wf (Kd.sl (Kd.int IntKind.u8)) x.fst ∧ Kd.wf (Kd.int IntKind.i64) x.snd.fst ∧ True →
      True →
        (decide (x.snd.fst < (0 : Int)) = false → True) ∧
          (decide (x.snd.fst < (0 : Int)) = false → (decide (x.snd.fst < (0 : Int)) == false) = true ∧ True) ∧
            (decide (x.snd.fst < (0 : Int)) = false → (decide (x.snd.fst < (0 : Int)) == false) = true) ∧
              ((bif decide (x.snd.fst < (0 : Int)) then true else decide ((7 : Int) < x.snd.fst)) = true → false = FitsD x.fst x.snd.fst) ∧
                ((bif decide (x.snd.fst < (0 : Int)) then true else decide ((7 : Int) < x.snd.fst)) = false →
                  (decide ((↑(List.length x.fst) : Int) = (0 : Int)) = true → decide (x.snd.fst = (0 : Int)) = FitsD x.fst x.snd.fst) ∧
                    (decide ((↑(List.length x.fst) : Int) = (0 : Int)) = false →
                      ((0 : Int) ≤ IntKind.wrap IntKind.i64 ((↑(List.length x.fst) : Int) - (1 : Int)) ∧
                          IntKind.wrap IntKind.i64 ((↑(List.length x.fst) : Int) - (1 : Int)) < (↑(List.length x.fst) : Int)) ∧
                        (0 : Int) ≤ x.snd.fst ∧
                          decide
                              (IntKind.wrap IntKind.u8
                                  (↑(BitVec.toNat
                                        (BitVec.ofInt (8 : Nat) (List.getD x.fst (Int.toNat (IntKind.wrap IntKind.i64 ((↑(List.length x.fst) : Int) - (1 : Int)))) (Kd.dft (Kd.int IntKind.u8))) &&&
                                          BitVec.ofInt (8 : Nat) (IntKind.wrap IntKind.u8 (IntKind.wrap IntKind.u8 ((1 : Int) * (2 : Int) ^ min (Int.toNat x.snd.fst) (8 : Nat)) - (1 : Int))))) :
                                    Int) =
                                (0 : Int)) =
                            FitsD x.fst x.snd.fst))
theorem e34 : t34 = Con.vc c34 GL (mkEnv ty [] [] [] [0, 1, 4, 5, 12]) {} Tryd.f34.ntmps Tryd.f34.results.toList (bodyOf Tryd.f34) := by kernel_rfl
theorem k34 : t34 := by
  unfold t34
  rintro ⟨l, n, _⟩ hx hp
  have hl : l.length ≤ 9223372036854775807 := hx.1.1
  simp only [true_and, and_true, eq_self_iff_true, implies_true, reduceCtorEq, false_implies, true_implies, decide_eq_true_eq, decide_eq_false_iff_not, beq_self_eq_true, Bool.not_eq_true', ne_eq, Decidable.not_not, List.nil_append, List.length_singleton, List.length_cons, List.length_nil, Nat.zero_add, Nat.add_zero, Nat.mul_one, and_self, beq_iff_eq, Bool.not_true, Bool.not_false, Bool.not_eq_false', Bool.cond_false_right, Bool.and_eq_true, imp_self, Bool.not_eq_true, Bool.cond_true_left, Bool.or_eq_true]
  refine ⟨fun h => by simp [FitsD, h], fun h => ?_⟩
  have h' : ¬ (n < 0 ∨ 7 < n) := by simpa using h
  refine ⟨fun h0 => ?_, fun h0 => ?_⟩
  · have : l = [] := List.eq_nil_of_length_eq_zero (by omega)
    subst this
    rw [FitsD, if_neg h', if_pos rfl]
  · have hne : l ≠ [] := fun e => h0 (by rw [e]; rfl)
    have hw : IntKind.wrap .i64 ((l.length : Int) - 1) = l.length - 1 := by rw [IntKind.wrap_i64]; omega
    have hd : Kd.dft (Kd.int .u8) = (0 : Int) := rfl
    have hb : 0 ≤ l.getD (l.length - 1) 0 ∧ l.getD (l.length - 1) 0 ≤ 255 := byte_get hx.1 (l.length - 1)
    rw [hw, hd, show ((l.length : Int) - 1).toNat = l.length - 1 by omega]
    refine ⟨by omega, by omega, ?_⟩
    rw [and_low _ n.toNat hb.1 hb.2 (by omega), last_get l hne]
    rw [FitsD, if_neg h', if_neg hne]
theorem h34 : c34.ok Tryd.prog GL 34 := con_ok (H := {}) (mkEnv_ok (gl := GL) (l := []) (q := []) (d := []) _ tyOk (by kernel_rfl) trivial trivial trivial) (by kernel_rfl) (by kernel_rfl) (Eq.mp e34 k34)

def t35 : Prop :=
  ∀ (x : List Int × Int × Unit),
    Kd.wf (Kd.sl (Kd.int IntKind.u8)) x.fst ∧ Kd.wf (Kd.int IntKind.i64) x.snd.fst ∧ True →
      True →
        (decide (x.snd.fst < (0 : Int)) = false → True) ∧
          (decide (x.snd.fst < (0 : Int)) = false → (decide (x.snd.fst < (0 : Int)) == false) = true ∧ True) ∧
            (decide (x.snd.fst < (0 : Int)) = false → (decide (x.snd.fst < (0 : Int)) == false) = true) ∧
              ((bif decide (x.snd.fst < (0 : Int)) then true else decide ((7 : Int) < x.snd.fst)) = true → false = FitsD x.fst x.snd.fst) ∧
                ((bif decide (x.snd.fst < (0 : Int)) then true else decide ((7 : Int) < x.snd.fst)) = false →
                  (decide ((↑(List.length x.fst) : Int) = (0 : Int)) = true → decide (x.snd.fst = (0 : Int)) = FitsD x.fst x.snd.fst) ∧
                    (decide ((↑(List.length x.fst) : Int) = (0 : Int)) = false →
                      ∃ (I : Int × Int × Unit → Unit → Prop),
                        ∃ (μ : Int × Int × Unit → Unit → Nat),
                          (Value.bool false = Value.bool false ∧
                              Value.bool false = Value.bool false ∧ Value.bool false = Value.bool false ∧ x.fst = x.fst ∧ x.snd.fst = x.snd.fst ∧ I ((0 : Int), (1 : Int), ()) ()) ∧
                            ∀ (y : Int × Int × Unit) (z : Unit),
                              Kd.wf (Kd.int IntKind.i64) y.fst ∧ Kd.wf (Kd.int IntKind.i64) y.snd.fst ∧ True →
                                True →
                                  I y z →
                                    (decide (y.fst < x.snd.fst) = true →
                                        Value.bool false = Value.bool false ∧
                                          Value.bool false = Value.bool false ∧
                                            Value.bool false = Value.bool false ∧
                                              x.fst = x.fst ∧
                                                x.snd.fst = x.snd.fst ∧
                                                  I (IntKind.wrap IntKind.i64 (y.fst + (1 : Int)), IntKind.wrap IntKind.i64 ((2 : Int) * y.snd.fst), ()) () ∧
                                                    μ (IntKind.wrap IntKind.i64 (y.fst + (1 : Int)), IntKind.wrap IntKind.i64 ((2 : Int) * y.snd.fst), ()) () < μ y z) ∧
                                      (decide (y.fst < x.snd.fst) = false →
                                        ((0 : Int) ≤ IntKind.wrap IntKind.i64 ((↑(List.length x.fst) : Int) - (1 : Int)) ∧
                                            IntKind.wrap IntKind.i64 ((↑(List.length x.fst) : Int) - (1 : Int)) < (↑(List.length x.fst) : Int)) ∧
                                          y.snd.fst ≠ (0 : Int) ∧
                                            decide
                                                (Int.tmod
                                                    (IntKind.wrap IntKind.i64
                                                      (List.getD x.fst (Int.toNat (IntKind.wrap IntKind.i64 ((↑(List.length x.fst) : Int) - (1 : Int)))) (Kd.dft (Kd.int IntKind.u8))))
                                                    y.snd.fst =
                                                  (0 : Int)) =
                                              FitsD x.fst x.snd.fst)))
theorem e35 : t35 = Con.vc c35 GL (mkEnv ty [] [] [] [0, 1, 4, 5, 6, 12, 15, 20]) {} Tryd.f35.ntmps Tryd.f35.results.toList (bodyOf Tryd.f35) := by kernel_rfl
theorem k35 : t35 := by
  unfold t35
  rintro ⟨l, n, _⟩ hx hp
  have hl : l.length ≤ 9223372036854775807 := hx.1.1
  simp only [true_and, and_true, eq_self_iff_true, implies_true, reduceCtorEq, false_implies, true_implies, decide_eq_true_eq, decide_eq_false_iff_not, beq_self_eq_true, Bool.not_eq_true', ne_eq, Decidable.not_not, List.nil_append, List.length_singleton, List.length_cons, List.length_nil, Nat.zero_add, Nat.add_zero, Nat.mul_one, and_self, beq_iff_eq, Bool.not_true, Bool.not_false, Bool.not_eq_false', Bool.cond_false_right, Bool.and_eq_true, imp_self, Bool.not_eq_true, Bool.cond_true_left, Bool.or_eq_true]
  refine ⟨fun h => by simp [FitsD, h], fun h => ?_⟩
  have h' : ¬ (n < 0 ∨ 7 < n) := by simpa using h
  refine ⟨fun h0 => ?_, fun h0 => ?_⟩
  · have : l = [] := List.eq_nil_of_length_eq_zero (by omega)
    subst this
    rw [FitsD, if_neg h', if_pos rfl]
  · have hne : l ≠ [] := fun e => h0 (by rw [e]; rfl)
    have hw : IntKind.wrap .i64 ((l.length : Int) - 1) = l.length - 1 := by rw [IntKind.wrap_i64]; omega
    have hd : Kd.dft (Kd.int .u8) = (0 : Int) := rfl
    have hb : 0 ≤ l.getD (l.length - 1) 0 ∧ l.getD (l.length - 1) 0 ≤ 255 := byte_get hx.1 (l.length - 1)
    rw [hw, hd, show ((l.length : Int) - 1).toNat = l.length - 1 by omega]
    refine ⟨fun y _ => 0 ≤ y.1 ∧ y.1 ≤ n ∧ y.2.1 = 2 ^ y.1.toNat, fun y _ => (n - y.1).toNat, ⟨by omega, by omega, rfl⟩, ?_⟩
    rintro ⟨i, p, _⟩ _ hwi ⟨h1, h2, h3⟩
    simp only at h1 h2 h3 hwi ⊢
    subst h3
    obtain ⟨j, rfl⟩ : ∃ j : Nat, i = j := ⟨i.toNat, by omega⟩
    rw [Int.toNat_natCast]
    have hp := pow7 j (by omega)
    refine ⟨fun hc => ?_, fun hc => ⟨by omega, by omega, ?_⟩⟩
    · rw [wrapk _ (by omega) (by omega), wrapk _ (by omega) (by omega)]
      refine ⟨⟨by omega, by omega, ?_⟩, by omega⟩
      rw [show ((j : Int) + 1).toNat = j + 1 by omega, Int.pow_succ, Int.mul_comm]
    · have hjn : (j : Int) = n := by omega
      rw [wrapk _ (by omega) (by omega), Int.tmod_eq_emod_of_nonneg hb.1, last_get l hne]
      rw [FitsD, if_neg h', if_neg hne, ← hjn, Int.toNat_natCast]
theorem h35 : c35.ok Tryd.prog GL 35 := con_ok (H := {}) (mkEnv_ok (gl := GL) (l := []) (q := []) (d := []) _ tyOk (by kernel_rfl) trivial trivial trivial) (by kernel_rfl) (by kernel_rfl) (Eq.mp e35 k35)

def t36 : Prop :=
  ∀ (x : Int × Unit),
    Kd.wf (Kd.int IntKind.u16) x.fst ∧ True →
      True →
        (0 : Int) ≤ (8 : Int) ∧
          ((0 : Int) ≤ Int.fdiv x.fst ((2 : Int) ^ (8 : Nat)) ∧ Int.fdiv x.fst ((2 : Int) ^ (8 : Nat)) < (↑(256 : Nat) : Int)) ∧
            ((0 : Int) ≤ IntKind.wrap IntKind.u16 (↑(BitVec.toNat (BitVec.ofInt (16 : Nat) x.fst &&& BitVec.ofInt (16 : Nat) (255 : Int))) : Int) ∧
                IntKind.wrap IntKind.u16 (↑(BitVec.toNat (BitVec.ofInt (16 : Nat) x.fst &&& BitVec.ofInt (16 : Nat) (255 : Int))) : Int) < (↑(256 : Nat) : Int)) ∧
              (0 : Int) ≤ (8 : Int) ∧
                IntKind.wrap IntKind.u16
                    (↑(BitVec.toNat
                          (BitVec.ofInt (16 : Nat)
                              (IntKind.wrap IntKind.u16
                                (List.getD
                                  (bs
                                    {
                                      data :=
                                        List.toArray
                                          (List.append
                                            (List.append
                                              [(0 : UInt8), (128 : UInt8), (64 : UInt8), (192 : UInt8), (32 : UInt8), (160 : UInt8), (96 : UInt8), (224 : UInt8), (16 : UInt8), (144 : UInt8),
                                                (80 : UInt8), (208 : UInt8), (48 : UInt8), (176 : UInt8), (112 : UInt8), (240 : UInt8), (8 : UInt8), (136 : UInt8), (72 : UInt8), (200 : UInt8),
                                                (40 : UInt8), (168 : UInt8), (104 : UInt8), (232 : UInt8), (24 : UInt8), (152 : UInt8), (88 : UInt8), (216 : UInt8), (56 : UInt8), (184 : UInt8),
                                                (120 : UInt8), (248 : UInt8), (4 : UInt8), (132 : UInt8), (68 : UInt8), (196 : UInt8), (36 : UInt8), (164 : UInt8), (100 : UInt8), (228 : UInt8),
                                                (20 : UInt8), (148 : UInt8), (84 : UInt8), (212 : UInt8), (52 : UInt8), (180 : UInt8), (116 : UInt8), (244 : UInt8), (12 : UInt8), (140 : UInt8),
                                                (76 : UInt8), (204 : UInt8), (44 : UInt8), (172 : UInt8), (108 : UInt8), (236 : UInt8), (28 : UInt8), (156 : UInt8), (92 : UInt8), (220 : UInt8),
                                                (60 : UInt8), (188 : UInt8), (124 : UInt8), (252 : UInt8)]
                                              [(2 : UInt8), (130 : UInt8), (66 : UInt8), (194 : UInt8), (34 : UInt8), (162 : UInt8), (98 : UInt8), (226 : UInt8), (18 : UInt8), (146 : UInt8),
                                                (82 : UInt8), (210 : UInt8), (50 : UInt8), (178 : UInt8), (114 : UInt8), (242 : UInt8), (10 : UInt8), (138 : UInt8), (74 : UInt8), (202 : UInt8),
                                                (42 : UInt8), (170 : UInt8), (106 : UInt8), (234 : UInt8), (26 : UInt8), (154 : UInt8), (90 : UInt8), (218 : UInt8), (58 : UInt8), (186 : UInt8),
                                                (122 : UInt8), (250 : UInt8), (6 : UInt8), (134 : UInt8), (70 : UInt8), (198 : UInt8), (38 : UInt8), (166 : UInt8), (102 : UInt8), (230 : UInt8),
                                                (22 : UInt8), (150 : UInt8), (86 : UInt8), (214 : UInt8), (54 : UInt8), (182 : UInt8), (118 : UInt8), (246 : UInt8), (14 : UInt8), (142 : UInt8),
                                                (78 : UInt8), (206 : UInt8), (46 : UInt8), (174 : UInt8), (110 : UInt8), (238 : UInt8), (30 : UInt8), (158 : UInt8), (94 : UInt8), (222 : UInt8),
                                                (62 : UInt8), (190 : UInt8), (126 : UInt8), (254 : UInt8)])
                                            (List.append
                                              [(1 : UInt8), (129 : UInt8), (65 : UInt8), (193 : UInt8), (33 : UInt8), (161 : UInt8), (97 : UInt8), (225 : UInt8), (17 : UInt8), (145 : UInt8),
                                                (81 : UInt8), (209 : UInt8), (49 : UInt8), (177 : UInt8), (113 : UInt8), (241 : UInt8), (9 : UInt8), (137 : UInt8), (73 : UInt8), (201 : UInt8),
                                                (41 : UInt8), (169 : UInt8), (105 : UInt8), (233 : UInt8), (25 : UInt8), (153 : UInt8), (89 : UInt8), (217 : UInt8), (57 : UInt8), (185 : UInt8),
                                                (121 : UInt8), (249 : UInt8), (5 : UInt8), (133 : UInt8), (69 : UInt8), (197 : UInt8), (37 : UInt8), (165 : UInt8), (101 : UInt8), (229 : UInt8),
                                                (21 : UInt8), (149 : UInt8), (85 : UInt8), (213 : UInt8), (53 : UInt8), (181 : UInt8), (117 : UInt8), (245 : UInt8), (13 : UInt8), (141 : UInt8),
                                                (77 : UInt8), (205 : UInt8), (45 : UInt8), (173 : UInt8), (109 : UInt8), (237 : UInt8), (29 : UInt8), (157 : UInt8), (93 : UInt8), (221 : UInt8),
                                                (61 : UInt8), (189 : UInt8), (125 : UInt8), (253 : UInt8)]
                                              [(3 : UInt8), (131 : UInt8), (67 : UInt8), (195 : UInt8), (35 : UInt8), (163 : UInt8), (99 : UInt8), (227 : UInt8), (19 : UInt8), (147 : UInt8),
                                                (83 : UInt8), (211 : UInt8), (51 : UInt8), (179 : UInt8), (115 : UInt8), (243 : UInt8), (11 : UInt8), (139 : UInt8), (75 : UInt8), (203 : UInt8),
                                                (43 : UInt8), (171 : UInt8), (107 : UInt8), (235 : UInt8), (27 : UInt8), (155 : UInt8), (91 : UInt8), (219 : UInt8), (59 : UInt8), (187 : UInt8),
                                                (123 : UInt8), (251 : UInt8), (7 : UInt8), (135 : UInt8), (71 : UInt8), (199 : UInt8), (39 : UInt8), (167 : UInt8), (103 : UInt8), (231 : UInt8),
                                                (23 : UInt8), (151 : UInt8), (87 : UInt8), (215 : UInt8), (55 : UInt8), (183 : UInt8), (119 : UInt8), (247 : UInt8), (15 : UInt8), (143 : UInt8),
                                                (79 : UInt8), (207 : UInt8), (47 : UInt8), (175 : UInt8), (111 : UInt8), (239 : UInt8), (31 : UInt8), (159 : UInt8), (95 : UInt8), (223 : UInt8),
                                                (63 : UInt8), (191 : UInt8), (127 : UInt8), (255 : UInt8)])) })
                                  (Int.toNat (Int.fdiv x.fst ((2 : Int) ^ (8 : Nat)))) (0 : Int))) |||
                            BitVec.ofInt (16 : Nat)
                              (IntKind.wrap IntKind.u16
                                (IntKind.wrap IntKind.u16
                                    (List.getD
                                      (bs
                                        {
                                          data :=
                                            List.toArray
                                              (List.append
                                                (List.append
                                                  [(0 : UInt8), (128 : UInt8), (64 : UInt8), (192 : UInt8), (32 : UInt8), (160 : UInt8), (96 : UInt8), (224 : UInt8), (16 : UInt8), (144 : UInt8),
                                                    (80 : UInt8), (208 : UInt8), (48 : UInt8), (176 : UInt8), (112 : UInt8), (240 : UInt8), (8 : UInt8), (136 : UInt8), (72 : UInt8), (200 : UInt8),
                                                    (40 : UInt8), (168 : UInt8), (104 : UInt8), (232 : UInt8), (24 : UInt8), (152 : UInt8), (88 : UInt8), (216 : UInt8), (56 : UInt8), (184 : UInt8),
                                                    (120 : UInt8), (248 : UInt8), (4 : UInt8), (132 : UInt8), (68 : UInt8), (196 : UInt8), (36 : UInt8), (164 : UInt8), (100 : UInt8), (228 : UInt8),
                                                    (20 : UInt8), (148 : UInt8), (84 : UInt8), (212 : UInt8), (52 : UInt8), (180 : UInt8), (116 : UInt8), (244 : UInt8), (12 : UInt8), (140 : UInt8),
                                                    (76 : UInt8), (204 : UInt8), (44 : UInt8), (172 : UInt8), (108 : UInt8), (236 : UInt8), (28 : UInt8), (156 : UInt8), (92 : UInt8), (220 : UInt8),
                                                    (60 : UInt8), (188 : UInt8), (124 : UInt8), (252 : UInt8)]
                                                  [(2 : UInt8), (130 : UInt8), (66 : UInt8), (194 : UInt8), (34 : UInt8), (162 : UInt8), (98 : UInt8), (226 : UInt8), (18 : UInt8), (146 : UInt8),
                                                    (82 : UInt8), (210 : UInt8), (50 : UInt8), (178 : UInt8), (114 : UInt8), (242 : UInt8), (10 : UInt8), (138 : UInt8), (74 : UInt8), (202 : UInt8),
                                                    (42 : UInt8), (170 : UInt8), (106 : UInt8), (234 : UInt8), (26 : UInt8), (154 : UInt8), (90 : UInt8), (218 : UInt8), (58 : UInt8), (186 : UInt8),
                                                    (122 : UInt8), (250 : UInt8), (6 : UInt8), (134 : UInt8), (70 : UInt8), (198 : UInt8), (38 : UInt8), (166 : UInt8), (102 : UInt8), (230 : UInt8),
                                                    (22 : UInt8), (150 : UInt8), (86 : UInt8), (214 : UInt8), (54 : UInt8), (182 : UInt8), (118 : UInt8), (246 : UInt8), (14 : UInt8), (142 : UInt8),
                                                    (78 : UInt8), (206 : UInt8), (46 : UInt8), (174 : UInt8), (110 : UInt8), (238 : UInt8), (30 : UInt8), (158 : UInt8), (94 : UInt8), (222 : UInt8),
                                                    (62 : UInt8), (190 : UInt8), (126 : UInt8), (254 : UInt8)])
                                                (List.append
                                                  [(1 : UInt8), (129 : UInt8), (65 : UInt8), (193 : UInt8), (33 : UInt8), (161 : UInt8), (97 : UInt8), (225 : UInt8), (17 : UInt8), (145 : UInt8),
                                                    (81 : UInt8), (209 : UInt8), (49 : UInt8), (177 : UInt8), (113 : UInt8), (241 : UInt8), (9 : UInt8), (137 : UInt8), (73 : UInt8), (201 : UInt8),
                                                    (41 : UInt8), (169 : UInt8), (105 : UInt8), (233 : UInt8), (25 : UInt8), (153 : UInt8), (89 : UInt8), (217 : UInt8), (57 : UInt8), (185 : UInt8),
                                                    (121 : UInt8), (249 : UInt8), (5 : UInt8), (133 : UInt8), (69 : UInt8), (197 : UInt8), (37 : UInt8), (165 : UInt8), (101 : UInt8), (229 : UInt8),
                                                    (21 : UInt8), (149 : UInt8), (85 : UInt8), (213 : UInt8), (53 : UInt8), (181 : UInt8), (117 : UInt8), (245 : UInt8), (13 : UInt8), (141 : UInt8),
                                                    (77 : UInt8), (205 : UInt8), (45 : UInt8), (173 : UInt8), (109 : UInt8), (237 : UInt8), (29 : UInt8), (157 : UInt8), (93 : UInt8), (221 : UInt8),
                                                    (61 : UInt8), (189 : UInt8), (125 : UInt8), (253 : UInt8)]
                                                  [(3 : UInt8), (131 : UInt8), (67 : UInt8), (195 : UInt8), (35 : UInt8), (163 : UInt8), (99 : UInt8), (227 : UInt8), (19 : UInt8), (147 : UInt8),
                                                    (83 : UInt8), (211 : UInt8), (51 : UInt8), (179 : UInt8), (115 : UInt8), (243 : UInt8), (11 : UInt8), (139 : UInt8), (75 : UInt8), (203 : UInt8),
                                                    (43 : UInt8), (171 : UInt8), (107 : UInt8), (235 : UInt8), (27 : UInt8), (155 : UInt8), (91 : UInt8), (219 : UInt8), (59 : UInt8), (187 : UInt8),
                                                    (123 : UInt8), (251 : UInt8), (7 : UInt8), (135 : UInt8), (71 : UInt8), (199 : UInt8), (39 : UInt8), (167 : UInt8), (103 : UInt8), (231 : UInt8),
                                                    (23 : UInt8), (151 : UInt8), (87 : UInt8), (215 : UInt8), (55 : UInt8), (183 : UInt8), (119 : UInt8), (247 : UInt8), (15 : UInt8), (143 : UInt8),
                                                    (79 : UInt8), (207 : UInt8), (47 : UInt8), (175 : UInt8), (111 : UInt8), (239 : UInt8), (31 : UInt8), (159 : UInt8), (95 : UInt8), (223 : UInt8),
                                                    (63 : UInt8), (191 : UInt8), (127 : UInt8), (255 : UInt8)])) })
                                      (Int.toNat (IntKind.wrap IntKind.u16 (↑(BitVec.toNat (BitVec.ofInt (16 : Nat) x.fst &&& BitVec.ofInt (16 : Nat) (255 : Int))) : Int))) (0 : Int)) *
                                  (2 : Int) ^ (8 : Nat))))) :
                      Int) =
                  (↑(prev (Int.toNat x.fst / (256 : Nat)) (8 : Nat)) : Int) + (256 : Int) * (↑(prev (Int.toNat x.fst % (256 : Nat)) (8 : Nat)) : Int)
theorem e36 : t36 = Con.vc c36 GL (mkEnv ty [] [] [] [0, 2]) {} Tryd.f36.ntmps Tryd.f36.results.toList (bodyOf Tryd.f36) := by kernel_rfl
theorem k36 : t36 := by
  unfold t36
  rintro ⟨x, _⟩ hx hp
  obtain ⟨n, rfl, hn⟩ := u16_nat hx.1
  simp only [true_and, and_true, eq_self_iff_true, implies_true, reduceCtorEq, false_implies, true_implies, decide_eq_true_eq, decide_eq_false_iff_not, beq_self_eq_true, Bool.not_eq_true', ne_eq, Decidable.not_not, List.nil_append, List.length_singleton, List.length_cons, List.length_nil, Nat.zero_add, Nat.add_zero, Nat.mul_one, and_self, beq_iff_eq, Bool.not_true, Bool.not_false, Bool.not_eq_false', Bool.cond_false_right, Bool.and_eq_true, imp_self, Bool.not_eq_true, Bool.cond_true_left, Bool.or_eq_true, fdiv8, u16_and n hn, Int.toNat_natCast]
  have tab : ∀ i : Fin 256, List.getD (bs { data := List.toArray (List.append (List.append [(0 : UInt8), (128 : UInt8), (64 : UInt8), (192 : UInt8), (32 : UInt8), (160 : UInt8), (96 : UInt8), (224 : UInt8), (16 : UInt8), (144 : UInt8), (80 : UInt8), (208 : UInt8), (48 : UInt8), (176 : UInt8), (112 : UInt8), (240 : UInt8), (8 : UInt8), (136 : UInt8), (72 : UInt8), (200 : UInt8), (40 : UInt8), (168 : UInt8), (104 : UInt8), (232 : UInt8), (24 : UInt8), (152 : UInt8), (88 : UInt8), (216 : UInt8), (56 : UInt8), (184 : UInt8), (120 : UInt8), (248 : UInt8), (4 : UInt8), (132 : UInt8), (68 : UInt8), (196 : UInt8), (36 : UInt8), (164 : UInt8), (100 : UInt8), (228 : UInt8), (20 : UInt8), (148 : UInt8), (84 : UInt8), (212 : UInt8), (52 : UInt8), (180 : UInt8), (116 : UInt8), (244 : UInt8), (12 : UInt8), (140 : UInt8), (76 : UInt8), (204 : UInt8), (44 : UInt8), (172 : UInt8), (108 : UInt8), (236 : UInt8), (28 : UInt8), (156 : UInt8), (92 : UInt8), (220 : UInt8), (60 : UInt8), (188 : UInt8), (124 : UInt8), (252 : UInt8)] [(2 : UInt8), (130 : UInt8), (66 : UInt8), (194 : UInt8), (34 : UInt8), (162 : UInt8), (98 : UInt8), (226 : UInt8), (18 : UInt8), (146 : UInt8), (82 : UInt8), (210 : UInt8), (50 : UInt8), (178 : UInt8), (114 : UInt8), (242 : UInt8), (10 : UInt8), (138 : UInt8), (74 : UInt8), (202 : UInt8), (42 : UInt8), (170 : UInt8), (106 : UInt8), (234 : UInt8), (26 : UInt8), (154 : UInt8), (90 : UInt8), (218 : UInt8), (58 : UInt8), (186 : UInt8), (122 : UInt8), (250 : UInt8), (6 : UInt8), (134 : UInt8), (70 : UInt8), (198 : UInt8), (38 : UInt8), (166 : UInt8), (102 : UInt8), (230 : UInt8), (22 : UInt8), (150 : UInt8), (86 : UInt8), (214 : UInt8), (54 : UInt8), (182 : UInt8), (118 : UInt8), (246 : UInt8), (14 : UInt8), (142 : UInt8), (78 : UInt8), (206 : UInt8), (46 : UInt8), (174 : UInt8), (110 : UInt8), (238 : UInt8), (30 : UInt8), (158 : UInt8), (94 : UInt8), (222 : UInt8), (62 : UInt8), (190 : UInt8), (126 : UInt8), (254 : UInt8)]) (List.append [(1 : UInt8), (129 : UInt8), (65 : UInt8), (193 : UInt8), (33 : UInt8), (161 : UInt8), (97 : UInt8), (225 : UInt8), (17 : UInt8), (145 : UInt8), (81 : UInt8), (209 : UInt8), (49 : UInt8), (177 : UInt8), (113 : UInt8), (241 : UInt8), (9 : UInt8), (137 : UInt8), (73 : UInt8), (201 : UInt8), (41 : UInt8), (169 : UInt8), (105 : UInt8), (233 : UInt8), (25 : UInt8), (153 : UInt8), (89 : UInt8), (217 : UInt8), (57 : UInt8), (185 : UInt8), (121 : UInt8), (249 : UInt8), (5 : UInt8), (133 : UInt8), (69 : UInt8), (197 : UInt8), (37 : UInt8), (165 : UInt8), (101 : UInt8), (229 : UInt8), (21 : UInt8), (149 : UInt8), (85 : UInt8), (213 : UInt8), (53 : UInt8), (181 : UInt8), (117 : UInt8), (245 : UInt8), (13 : UInt8), (141 : UInt8), (77 : UInt8), (205 : UInt8), (45 : UInt8), (173 : UInt8), (109 : UInt8), (237 : UInt8), (29 : UInt8), (157 : UInt8), (93 : UInt8), (221 : UInt8), (61 : UInt8), (189 : UInt8), (125 : UInt8), (253 : UInt8)] [(3 : UInt8), (131 : UInt8), (67 : UInt8), (195 : UInt8), (35 : UInt8), (163 : UInt8), (99 : UInt8), (227 : UInt8), (19 : UInt8), (147 : UInt8), (83 : UInt8), (211 : UInt8), (51 : UInt8), (179 : UInt8), (115 : UInt8), (243 : UInt8), (11 : UInt8), (139 : UInt8), (75 : UInt8), (203 : UInt8), (43 : UInt8), (171 : UInt8), (107 : UInt8), (235 : UInt8), (27 : UInt8), (155 : UInt8), (91 : UInt8), (219 : UInt8), (59 : UInt8), (187 : UInt8), (123 : UInt8), (251 : UInt8), (7 : UInt8), (135 : UInt8), (71 : UInt8), (199 : UInt8), (39 : UInt8), (167 : UInt8), (103 : UInt8), (231 : UInt8), (23 : UInt8), (151 : UInt8), (87 : UInt8), (215 : UInt8), (55 : UInt8), (183 : UInt8), (119 : UInt8), (247 : UInt8), (15 : UInt8), (143 : UInt8), (79 : UInt8), (207 : UInt8), (47 : UInt8), (175 : UInt8), (111 : UInt8), (239 : UInt8), (31 : UInt8), (159 : UInt8), (95 : UInt8), (223 : UInt8), (63 : UInt8), (191 : UInt8), (127 : UInt8), (255 : UInt8)])) }) i.val (0 : Int) = (prev i.val 8 : Int) := by decide +kernel
  rw [tab ⟨n / 256, by omega⟩, tab ⟨n % 256, by omega⟩]
  exact ⟨by decide, by omega, by omega, by decide, u16_or _ _ (prev_lt _ (by omega)) (prev_lt _ (by omega))⟩
theorem h36 : c36.ok Tryd.prog GL 36 := con_ok (H := {}) (mkEnv_ok (gl := GL) (l := []) (q := []) (d := []) _ tyOk (by kernel_rfl) trivial trivial trivial) (by kernel_rfl) (by kernel_rfl) (Eq.mp e36 k36)

def t37 : Prop :=
  ∀ (x : Int × Unit),
    Kd.wf (Kd.int IntKind.u16) x.fst ∧ True →
      True →
        (decide ((256 : Int) ≤ x.fst) = true →
            (0 : Int) ≤ (8 : Int) ∧
              ((0 : Int) ≤ IntKind.wrap IntKind.u8 (Int.fdiv x.fst ((2 : Int) ^ (8 : Nat))) ∧ IntKind.wrap IntKind.u8 (Int.fdiv x.fst ((2 : Int) ^ (8 : Nat))) < (↑(256 : Nat) : Int)) ∧
                IntKind.wrap IntKind.i64
                    ((8 : Int) +
                      IntKind.wrap IntKind.i64
                        (List.getD
                          (bs
                            {
                              data :=
                                List.toArray
                                  (List.append
                                    (List.append
                                      [(0 : UInt8), (1 : UInt8), (2 : UInt8), (2 : UInt8), (3 : UInt8), (3 : UInt8), (3 : UInt8), (3 : UInt8), (4 : UInt8), (4 : UInt8), (4 : UInt8), (4 : UInt8),
                                        (4 : UInt8), (4 : UInt8), (4 : UInt8), (4 : UInt8), (5 : UInt8), (5 : UInt8), (5 : UInt8), (5 : UInt8), (5 : UInt8), (5 : UInt8), (5 : UInt8), (5 : UInt8),
                                        (5 : UInt8), (5 : UInt8), (5 : UInt8), (5 : UInt8), (5 : UInt8), (5 : UInt8), (5 : UInt8), (5 : UInt8), (6 : UInt8), (6 : UInt8), (6 : UInt8), (6 : UInt8),
                                        (6 : UInt8), (6 : UInt8), (6 : UInt8), (6 : UInt8), (6 : UInt8), (6 : UInt8), (6 : UInt8), (6 : UInt8), (6 : UInt8), (6 : UInt8), (6 : UInt8), (6 : UInt8),
                                        (6 : UInt8), (6 : UInt8), (6 : UInt8), (6 : UInt8), (6 : UInt8), (6 : UInt8), (6 : UInt8), (6 : UInt8), (6 : UInt8), (6 : UInt8), (6 : UInt8), (6 : UInt8),
                                        (6 : UInt8), (6 : UInt8), (6 : UInt8), (6 : UInt8)]
                                      [(7 : UInt8), (7 : UInt8), (7 : UInt8), (7 : UInt8), (7 : UInt8), (7 : UInt8), (7 : UInt8), (7 : UInt8), (7 : UInt8), (7 : UInt8), (7 : UInt8), (7 : UInt8),
                                        (7 : UInt8), (7 : UInt8), (7 : UInt8), (7 : UInt8), (7 : UInt8), (7 : UInt8), (7 : UInt8), (7 : UInt8), (7 : UInt8), (7 : UInt8), (7 : UInt8), (7 : UInt8),
                                        (7 : UInt8), (7 : UInt8), (7 : UInt8), (7 : UInt8), (7 : UInt8), (7 : UInt8), (7 : UInt8), (7 : UInt8), (7 : UInt8), (7 : UInt8), (7 : UInt8), (7 : UInt8),
                                        (7 : UInt8), (7 : UInt8), (7 : UInt8), (7 : UInt8), (7 : UInt8), (7 : UInt8), (7 : UInt8), (7 : UInt8), (7 : UInt8), (7 : UInt8), (7 : UInt8), (7 : UInt8),
                                        (7 : UInt8), (7 : UInt8), (7 : UInt8), (7 : UInt8), (7 : UInt8), (7 : UInt8), (7 : UInt8), (7 : UInt8), (7 : UInt8), (7 : UInt8), (7 : UInt8), (7 : UInt8),
                                        (7 : UInt8), (7 : UInt8), (7 : UInt8), (7 : UInt8)])
                                    (List.append
                                      [(8 : UInt8), (8 : UInt8), (8 : UInt8), (8 : UInt8), (8 : UInt8), (8 : UInt8), (8 : UInt8), (8 : UInt8), (8 : UInt8), (8 : UInt8), (8 : UInt8), (8 : UInt8),
                                        (8 : UInt8), (8 : UInt8), (8 : UInt8), (8 : UInt8), (8 : UInt8), (8 : UInt8), (8 : UInt8), (8 : UInt8), (8 : UInt8), (8 : UInt8), (8 : UInt8), (8 : UInt8),
                                        (8 : UInt8), (8 : UInt8), (8 : UInt8), (8 : UInt8), (8 : UInt8), (8 : UInt8), (8 : UInt8), (8 : UInt8), (8 : UInt8), (8 : UInt8), (8 : UInt8), (8 : UInt8),
                                        (8 : UInt8), (8 : UInt8), (8 : UInt8), (8 : UInt8), (8 : UInt8), (8 : UInt8), (8 : UInt8), (8 : UInt8), (8 : UInt8), (8 : UInt8), (8 : UInt8), (8 : UInt8),
                                        (8 : UInt8), (8 : UInt8), (8 : UInt8), (8 : UInt8), (8 : UInt8), (8 : UInt8), (8 : UInt8), (8 : UInt8), (8 : UInt8), (8 : UInt8), (8 : UInt8), (8 : UInt8),
                                        (8 : UInt8), (8 : UInt8), (8 : UInt8), (8 : UInt8)]
                                      [(8 : UInt8), (8 : UInt8), (8 : UInt8), (8 : UInt8), (8 : UInt8), (8 : UInt8), (8 : UInt8), (8 : UInt8), (8 : UInt8), (8 : UInt8), (8 : UInt8), (8 : UInt8),
                                        (8 : UInt8), (8 : UInt8), (8 : UInt8), (8 : UInt8), (8 : UInt8), (8 : UInt8), (8 : UInt8), (8 : UInt8), (8 : UInt8), (8 : UInt8), (8 : UInt8), (8 : UInt8),
                                        (8 : UInt8), (8 : UInt8), (8 : UInt8), (8 : UInt8), (8 : UInt8), (8 : UInt8), (8 : UInt8), (8 : UInt8), (8 : UInt8), (8 : UInt8), (8 : UInt8), (8 : UInt8),
                                        (8 : UInt8), (8 : UInt8), (8 : UInt8), (8 : UInt8), (8 : UInt8), (8 : UInt8), (8 : UInt8), (8 : UInt8), (8 : UInt8), (8 : UInt8), (8 : UInt8), (8 : UInt8),
                                        (8 : UInt8), (8 : UInt8), (8 : UInt8), (8 : UInt8), (8 : UInt8), (8 : UInt8), (8 : UInt8), (8 : UInt8), (8 : UInt8), (8 : UInt8), (8 : UInt8), (8 : UInt8),
                                        (8 : UInt8), (8 : UInt8), (8 : UInt8), (8 : UInt8)])) })
                          (Int.toNat (IntKind.wrap IntKind.u8 (Int.fdiv x.fst ((2 : Int) ^ (8 : Nat))))) (0 : Int))) =
                  if x.fst < (256 : Int) then (↑(lastb (Int.toNat x.fst) (8 : Nat)) : Int) else (8 : Int) + (↑(lastb (Int.toNat x.fst / (256 : Nat)) (8 : Nat)) : Int)) ∧
          (decide ((256 : Int) ≤ x.fst) = false →
            ((0 : Int) ≤ IntKind.wrap IntKind.u8 x.fst ∧ IntKind.wrap IntKind.u8 x.fst < (↑(256 : Nat) : Int)) ∧
              IntKind.wrap IntKind.i64
                  ((0 : Int) +
                    IntKind.wrap IntKind.i64
                      (List.getD
                        (bs
                          {
                            data :=
                              List.toArray
                                (List.append
                                  (List.append
                                    [(0 : UInt8), (1 : UInt8), (2 : UInt8), (2 : UInt8), (3 : UInt8), (3 : UInt8), (3 : UInt8), (3 : UInt8), (4 : UInt8), (4 : UInt8), (4 : UInt8), (4 : UInt8),
                                      (4 : UInt8), (4 : UInt8), (4 : UInt8), (4 : UInt8), (5 : UInt8), (5 : UInt8), (5 : UInt8), (5 : UInt8), (5 : UInt8), (5 : UInt8), (5 : UInt8), (5 : UInt8),
                                      (5 : UInt8), (5 : UInt8), (5 : UInt8), (5 : UInt8), (5 : UInt8), (5 : UInt8), (5 : UInt8), (5 : UInt8), (6 : UInt8), (6 : UInt8), (6 : UInt8), (6 : UInt8),
                                      (6 : UInt8), (6 : UInt8), (6 : UInt8), (6 : UInt8), (6 : UInt8), (6 : UInt8), (6 : UInt8), (6 : UInt8), (6 : UInt8), (6 : UInt8), (6 : UInt8), (6 : UInt8),
                                      (6 : UInt8), (6 : UInt8), (6 : UInt8), (6 : UInt8), (6 : UInt8), (6 : UInt8), (6 : UInt8), (6 : UInt8), (6 : UInt8), (6 : UInt8), (6 : UInt8), (6 : UInt8),
                                      (6 : UInt8), (6 : UInt8), (6 : UInt8), (6 : UInt8)]
                                    [(7 : UInt8), (7 : UInt8), (7 : UInt8), (7 : UInt8), (7 : UInt8), (7 : UInt8), (7 : UInt8), (7 : UInt8), (7 : UInt8), (7 : UInt8), (7 : UInt8), (7 : UInt8),
                                      (7 : UInt8), (7 : UInt8), (7 : UInt8), (7 : UInt8), (7 : UInt8), (7 : UInt8), (7 : UInt8), (7 : UInt8), (7 : UInt8), (7 : UInt8), (7 : UInt8), (7 : UInt8),
                                      (7 : UInt8), (7 : UInt8), (7 : UInt8), (7 : UInt8), (7 : UInt8), (7 : UInt8), (7 : UInt8), (7 : UInt8), (7 : UInt8), (7 : UInt8), (7 : UInt8), (7 : UInt8),
                                      (7 : UInt8), (7 : UInt8), (7 : UInt8), (7 : UInt8), (7 : UInt8), (7 : UInt8), (7 : UInt8), (7 : UInt8), (7 : UInt8), (7 : UInt8), (7 : UInt8), (7 : UInt8),
                                      (7 : UInt8), (7 : UInt8), (7 : UInt8), (7 : UInt8), (7 : UInt8), (7 : UInt8), (7 : UInt8), (7 : UInt8), (7 : UInt8), (7 : UInt8), (7 : UInt8), (7 : UInt8),
                                      (7 : UInt8), (7 : UInt8), (7 : UInt8), (7 : UInt8)])
                                  (List.append
                                    [(8 : UInt8), (8 : UInt8), (8 : UInt8), (8 : UInt8), (8 : UInt8), (8 : UInt8), (8 : UInt8), (8 : UInt8), (8 : UInt8), (8 : UInt8), (8 : UInt8), (8 : UInt8),
                                      (8 : UInt8), (8 : UInt8), (8 : UInt8), (8 : UInt8), (8 : UInt8), (8 : UInt8), (8 : UInt8), (8 : UInt8), (8 : UInt8), (8 : UInt8), (8 : UInt8), (8 : UInt8),
                                      (8 : UInt8), (8 : UInt8), (8 : UInt8), (8 : UInt8), (8 : UInt8), (8 : UInt8), (8 : UInt8), (8 : UInt8), (8 : UInt8), (8 : UInt8), (8 : UInt8), (8 : UInt8),
                                      (8 : UInt8), (8 : UInt8), (8 : UInt8), (8 : UInt8), (8 : UInt8), (8 : UInt8), (8 : UInt8), (8 : UInt8), (8 : UInt8), (8 : UInt8), (8 : UInt8), (8 : UInt8),
                                      (8 : UInt8), (8 : UInt8), (8 : UInt8), (8 : UInt8), (8 : UInt8), (8 : UInt8), (8 : UInt8), (8 : UInt8), (8 : UInt8), (8 : UInt8), (8 : UInt8), (8 : UInt8),
                                      (8 : UInt8), (8 : UInt8), (8 : UInt8), (8 : UInt8)]
                                    [(8 : UInt8), (8 : UInt8), (8 : UInt8), (8 : UInt8), (8 : UInt8), (8 : UInt8), (8 : UInt8), (8 : UInt8), (8 : UInt8), (8 : UInt8), (8 : UInt8), (8 : UInt8),
                                      (8 : UInt8), (8 : UInt8), (8 : UInt8), (8 : UInt8), (8 : UInt8), (8 : UInt8), (8 : UInt8), (8 : UInt8), (8 : UInt8), (8 : UInt8), (8 : UInt8), (8 : UInt8),
                                      (8 : UInt8), (8 : UInt8), (8 : UInt8), (8 : UInt8), (8 : UInt8), (8 : UInt8), (8 : UInt8), (8 : UInt8), (8 : UInt8), (8 : UInt8), (8 : UInt8), (8 : UInt8),
                                      (8 : UInt8), (8 : UInt8), (8 : UInt8), (8 : UInt8), (8 : UInt8), (8 : UInt8), (8 : UInt8), (8 : UInt8), (8 : UInt8), (8 : UInt8), (8 : UInt8), (8 : UInt8),
                                      (8 : UInt8), (8 : UInt8), (8 : UInt8), (8 : UInt8), (8 : UInt8), (8 : UInt8), (8 : UInt8), (8 : UInt8), (8 : UInt8), (8 : UInt8), (8 : UInt8), (8 : UInt8),
                                      (8 : UInt8), (8 : UInt8), (8 : UInt8), (8 : UInt8)])) })
                        (Int.toNat (IntKind.wrap IntKind.u8 x.fst)) (0 : Int))) =
                if x.fst < (256 : Int) then (↑(lastb (Int.toNat x.fst) (8 : Nat)) : Int) else (8 : Int) + (↑(lastb (Int.toNat x.fst / (256 : Nat)) (8 : Nat)) : Int))
theorem e37 : t37 = Con.vc c37 GL (mkEnv ty [] [] [] [0, 2, 4]) {} Tryd.f37.ntmps Tryd.f37.results.toList (bodyOf Tryd.f37) := by kernel_rfl
theorem k37 : t37 := by
  unfold t37
  rintro ⟨x, _⟩ hx hp
  obtain ⟨n, rfl, hn⟩ := u16_nat hx.1
  simp only [true_and, and_true, eq_self_iff_true, implies_true, reduceCtorEq, false_implies, true_implies, decide_eq_true_eq, decide_eq_false_iff_not, beq_self_eq_true, Bool.not_eq_true', ne_eq, Decidable.not_not, List.nil_append, List.length_singleton, List.length_cons, List.length_nil, Nat.zero_add, Nat.add_zero, Nat.mul_one, and_self, beq_iff_eq, Bool.not_true, Bool.not_false, Bool.not_eq_false', Bool.cond_false_right, Bool.and_eq_true, imp_self, Bool.not_eq_true, Bool.cond_true_left, Bool.or_eq_true, fdiv8, Int.toNat_natCast]
  have tab : ∀ i : Fin 256, List.getD (bs { data := List.toArray (List.append (List.append [(0 : UInt8), (1 : UInt8), (2 : UInt8), (2 : UInt8), (3 : UInt8), (3 : UInt8), (3 : UInt8), (3 : UInt8), (4 : UInt8), (4 : UInt8), (4 : UInt8), (4 : UInt8), (4 : UInt8), (4 : UInt8), (4 : UInt8), (4 : UInt8), (5 : UInt8), (5 : UInt8), (5 : UInt8), (5 : UInt8), (5 : UInt8), (5 : UInt8), (5 : UInt8), (5 : UInt8), (5 : UInt8), (5 : UInt8), (5 : UInt8), (5 : UInt8), (5 : UInt8), (5 : UInt8), (5 : UInt8), (5 : UInt8), (6 : UInt8), (6 : UInt8), (6 : UInt8), (6 : UInt8), (6 : UInt8), (6 : UInt8), (6 : UInt8), (6 : UInt8), (6 : UInt8), (6 : UInt8), (6 : UInt8), (6 : UInt8), (6 : UInt8), (6 : UInt8), (6 : UInt8), (6 : UInt8), (6 : UInt8), (6 : UInt8), (6 : UInt8), (6 : UInt8), (6 : UInt8), (6 : UInt8), (6 : UInt8), (6 : UInt8), (6 : UInt8), (6 : UInt8), (6 : UInt8), (6 : UInt8), (6 : UInt8), (6 : UInt8), (6 : UInt8), (6 : UInt8)] [(7 : UInt8), (7 : UInt8), (7 : UInt8), (7 : UInt8), (7 : UInt8), (7 : UInt8), (7 : UInt8), (7 : UInt8), (7 : UInt8), (7 : UInt8), (7 : UInt8), (7 : UInt8), (7 : UInt8), (7 : UInt8), (7 : UInt8), (7 : UInt8), (7 : UInt8), (7 : UInt8), (7 : UInt8), (7 : UInt8), (7 : UInt8), (7 : UInt8), (7 : UInt8), (7 : UInt8), (7 : UInt8), (7 : UInt8), (7 : UInt8), (7 : UInt8), (7 : UInt8), (7 : UInt8), (7 : UInt8), (7 : UInt8), (7 : UInt8), (7 : UInt8), (7 : UInt8), (7 : UInt8), (7 : UInt8), (7 : UInt8), (7 : UInt8), (7 : UInt8), (7 : UInt8), (7 : UInt8), (7 : UInt8), (7 : UInt8), (7 : UInt8), (7 : UInt8), (7 : UInt8), (7 : UInt8), (7 : UInt8), (7 : UInt8), (7 : UInt8), (7 : UInt8), (7 : UInt8), (7 : UInt8), (7 : UInt8), (7 : UInt8), (7 : UInt8), (7 : UInt8), (7 : UInt8), (7 : UInt8), (7 : UInt8), (7 : UInt8), (7 : UInt8), (7 : UInt8)]) (List.append [(8 : UInt8), (8 : UInt8), (8 : UInt8), (8 : UInt8), (8 : UInt8), (8 : UInt8), (8 : UInt8), (8 : UInt8), (8 : UInt8), (8 : UInt8), (8 : UInt8), (8 : UInt8), (8 : UInt8), (8 : UInt8), (8 : UInt8), (8 : UInt8), (8 : UInt8), (8 : UInt8), (8 : UInt8), (8 : UInt8), (8 : UInt8), (8 : UInt8), (8 : UInt8), (8 : UInt8), (8 : UInt8), (8 : UInt8), (8 : UInt8), (8 : UInt8), (8 : UInt8), (8 : UInt8), (8 : UInt8), (8 : UInt8), (8 : UInt8), (8 : UInt8), (8 : UInt8), (8 : UInt8), (8 : UInt8), (8 : UInt8), (8 : UInt8), (8 : UInt8), (8 : UInt8), (8 : UInt8), (8 : UInt8), (8 : UInt8), (8 : UInt8), (8 : UInt8), (8 : UInt8), (8 : UInt8), (8 : UInt8), (8 : UInt8), (8 : UInt8), (8 : UInt8), (8 : UInt8), (8 : UInt8), (8 : UInt8), (8 : UInt8), (8 : UInt8), (8 : UInt8), (8 : UInt8), (8 : UInt8), (8 : UInt8), (8 : UInt8), (8 : UInt8), (8 : UInt8)] [(8 : UInt8), (8 : UInt8), (8 : UInt8), (8 : UInt8), (8 : UInt8), (8 : UInt8), (8 : UInt8), (8 : UInt8), (8 : UInt8), (8 : UInt8), (8 : UInt8), (8 : UInt8), (8 : UInt8), (8 : UInt8), (8 : UInt8), (8 : UInt8), (8 : UInt8), (8 : UInt8), (8 : UInt8), (8 : UInt8), (8 : UInt8), (8 : UInt8), (8 : UInt8), (8 : UInt8), (8 : UInt8), (8 : UInt8), (8 : UInt8), (8 : UInt8), (8 : UInt8), (8 : UInt8), (8 : UInt8), (8 : UInt8), (8 : UInt8), (8 : UInt8), (8 : UInt8), (8 : UInt8), (8 : UInt8), (8 : UInt8), (8 : UInt8), (8 : UInt8), (8 : UInt8), (8 : UInt8), (8 : UInt8), (8 : UInt8), (8 : UInt8), (8 : UInt8), (8 : UInt8), (8 : UInt8), (8 : UInt8), (8 : UInt8), (8 : UInt8), (8 : UInt8), (8 : UInt8), (8 : UInt8), (8 : UInt8), (8 : UInt8), (8 : UInt8), (8 : UInt8), (8 : UInt8), (8 : UInt8), (8 : UInt8), (8 : UInt8), (8 : UInt8), (8 : UInt8)])) }) i.val (0 : Int) = (lastb i.val 8 : Int) := by decide +kernel
  have hl : ∀ b : Nat, lastb b 8 ≤ 8 := fun b => lastb_le b 8
  refine ⟨fun h => ?_, fun h => ?_⟩
  · have e : IntKind.wrap .u8 ((n / 256 : Nat) : Int) = ((n / 256 : Nat) : Int) := by simp [IntKind.wrap, IntKind.signed, IntKind.bits]; omega
    rw [e, Int.toNat_natCast, tab ⟨n / 256, by omega⟩, if_neg (by omega)]
    have := hl (n / 256)
    simp only
    rw [wrapk (lastb (n / 256) 8 : Int) (by omega) (by omega), wrapk _ (by omega) (by omega)]
    exact ⟨by decide, by omega, rfl⟩
  · have e : IntKind.wrap .u8 (n : Int) = (n : Int) := by simp [IntKind.wrap, IntKind.signed, IntKind.bits]; omega
    rw [e, Int.toNat_natCast, tab ⟨n, by omega⟩, if_pos (by omega)]
    have := hl n
    simp only
    rw [wrapk (lastb n 8 : Int) (by omega) (by omega), wrapk _ (by omega) (by omega)]
    exact ⟨by omega, by omega⟩
theorem h37 : c37.ok Tryd.prog GL 37 := con_ok (H := {}) (mkEnv_ok (gl := GL) (l := []) (q := []) (d := []) _ tyOk (by kernel_rfl) trivial trivial trivial) (by kernel_rfl) (by kernel_rfl) (Eq.mp e37 k37)

def t23 : Prop :=
  ∀ (x : Int × Unit),
    Kd.wf (Kd.int IntKind.i64) x.fst ∧ True →
      True →
        (8 : Nat) ≤ (65536 : Nat) ∧
          ∃ (I : Int × Unit → List Int × Unit → Prop),
            ∃ (μ : Int × Unit → List Int × Unit → Nat),
              (Value.slice none (0 : Nat) (0 : Nat) = Value.slice none (0 : Nat) (0 : Nat) ∧
                  x.fst = x.fst ∧ I ((0 : Int), ()) ([(0 : Int), (0 : Int), (0 : Int), (0 : Int), (0 : Int), (0 : Int), (0 : Int), (0 : Int)], ())) ∧
                ∀ (y : Int × Unit) (z : List Int × Unit),
                  Kd.wf (Kd.int IntKind.i64) y.fst ∧ True →
                    Kd.wf (Kd.sl (Kd.int IntKind.u8)) z.fst ∧ True →
                      I y z →
                        (decide (y.fst < (8 : Int)) = true →
                            (0 : Int) ≤ IntKind.wrap IntKind.i64 ((56 : Int) - IntKind.wrap IntKind.i64 ((8 : Int) * y.fst)) ∧
                              ((0 : Int) ≤ y.fst ∧ y.fst < (↑(8 : Nat) : Int) ∧ y.fst < (↑(List.length z.fst) : Int)) ∧
                                Value.slice none (0 : Nat) (0 : Nat) = Value.slice none (0 : Nat) (0 : Nat) ∧
                                  x.fst = x.fst ∧
                                    I (IntKind.wrap IntKind.i64 (y.fst + (1 : Int)), ())
                                        (List.set z.fst (Int.toNat y.fst)
                                            (IntKind.wrap IntKind.u8
                                              (Int.fdiv x.fst ((2 : Int) ^ min (Int.toNat (IntKind.wrap IntKind.i64 ((56 : Int) - IntKind.wrap IntKind.i64 ((8 : Int) * y.fst)))) (64 : Nat)))),
                                          ()) ∧
                                      μ (IntKind.wrap IntKind.i64 (y.fst + (1 : Int)), ())
                                          (List.set z.fst (Int.toNat y.fst)
                                              (IntKind.wrap IntKind.u8
                                                (Int.fdiv x.fst ((2 : Int) ^ min (Int.toNat (IntKind.wrap IntKind.i64 ((56 : Int) - IntKind.wrap IntKind.i64 ((8 : Int) * y.fst)))) (64 : Nat)))),
                                            ()) <
                                        μ y z) ∧
                          (decide (y.fst < (8 : Int)) = false →
                            ∃ (I : Int × Unit → Unit → Prop),
                              ∃ (μ : Int × Unit → Unit → Nat),
                                (Value.bool false = Value.bool false ∧
                                    y.fst = y.fst ∧ Value.slice none (0 : Nat) (0 : Nat) = Value.slice none (0 : Nat) (0 : Nat) ∧ x.fst = x.fst ∧ z.fst = z.fst ∧ I ((0 : Int), ()) ()) ∧
                                  ∀ (y_1 : Int × Unit) (z_1 : Unit),
                                    Kd.wf (Kd.int IntKind.i64) y_1.fst ∧ True →
                                      True →
                                        I y_1 z_1 →
                                          (decide (y_1.fst < (7 : Int)) = true →
                                              ((0 : Int) ≤ y_1.fst ∧ y_1.fst < (↑(8 : Nat) : Int) ∧ y_1.fst < (↑(List.length z.fst) : Int)) ∧
                                                (decide (List.getD z.fst (Int.toNat y_1.fst) (Kd.dft (Kd.int IntKind.u8)) = (0 : Int)) = true → True) ∧
                                                  (decide (List.getD z.fst (Int.toNat y_1.fst) (Kd.dft (Kd.int IntKind.u8)) = (0 : Int)) = true →
                                                      (decide (List.getD z.fst (Int.toNat y_1.fst) (Kd.dft (Kd.int IntKind.u8)) = (0 : Int)) == true) = true ∧ True) ∧
                                                    (decide (List.getD z.fst (Int.toNat y_1.fst) (Kd.dft (Kd.int IntKind.u8)) = (0 : Int)) = true →
                                                        (decide (List.getD z.fst (Int.toNat y_1.fst) (Kd.dft (Kd.int IntKind.u8)) = (0 : Int)) == true) = true ∧
                                                          ((0 : Int) ≤ IntKind.wrap IntKind.i64 (y_1.fst + (1 : Int)) ∧
                                                              IntKind.wrap IntKind.i64 (y_1.fst + (1 : Int)) < (↑(8 : Nat) : Int) ∧
                                                                IntKind.wrap IntKind.i64 (y_1.fst + (1 : Int)) < (↑(List.length z.fst) : Int)) ∧
                                                            True) ∧
                                                      (decide (List.getD z.fst (Int.toNat y_1.fst) (Kd.dft (Kd.int IntKind.u8)) = (0 : Int)) = true →
                                                          (decide (List.getD z.fst (Int.toNat y_1.fst) (Kd.dft (Kd.int IntKind.u8)) = (0 : Int)) == true) = true ∧ True) ∧
                                                        (decide (List.getD z.fst (Int.toNat y_1.fst) (Kd.dft (Kd.int IntKind.u8)) = (0 : Int)) = true →
                                                            (decide (List.getD z.fst (Int.toNat y_1.fst) (Kd.dft (Kd.int IntKind.u8)) = (0 : Int)) == true) = true ∧ True) ∧
                                                          (decide (List.getD z.fst (Int.toNat y_1.fst) (Kd.dft (Kd.int IntKind.u8)) = (0 : Int)) = true →
                                                              (decide (List.getD z.fst (Int.toNat y_1.fst) (Kd.dft (Kd.int IntKind.u8)) = (0 : Int)) == true) = true) ∧
                                                            ((bif decide (List.getD z.fst (Int.toNat y_1.fst) (Kd.dft (Kd.int IntKind.u8)) = (0 : Int)) then
                                                                    decide (List.getD z.fst (Int.toNat (IntKind.wrap IntKind.i64 (y_1.fst + (1 : Int)))) (Kd.dft (Kd.int IntKind.u8)) < (128 : Int))
                                                                  else false) =
                                                                  true →
                                                                Value.bool false = Value.bool false ∧
                                                                  y.fst = y.fst ∧
                                                                    Value.slice none (0 : Nat) (0 : Nat) = Value.slice none (0 : Nat) (0 : Nat) ∧
                                                                      x.fst = x.fst ∧
                                                                        z.fst = z.fst ∧
                                                                          I (IntKind.wrap IntKind.i64 (y_1.fst + (1 : Int)), ()) () ∧
                                                                            μ (IntKind.wrap IntKind.i64 (y_1.fst + (1 : Int)), ()) () < μ y_1 z_1) ∧
                                                              ((bif decide (List.getD z.fst (Int.toNat y_1.fst) (Kd.dft (Kd.int IntKind.u8)) = (0 : Int)) then
                                                                    decide (List.getD z.fst (Int.toNat (IntKind.wrap IntKind.i64 (y_1.fst + (1 : Int)))) (Kd.dft (Kd.int IntKind.u8)) < (128 : Int))
                                                                  else false) =
                                                                  false →
                                                                ((0 : Int) ≤ y_1.fst ∧ y_1.fst < (↑(8 : Nat) : Int) ∧ y_1.fst < (↑(List.length z.fst) : Int)) ∧
                                                                  (decide (List.getD z.fst (Int.toNat y_1.fst) (Kd.dft (Kd.int IntKind.u8)) = (255 : Int)) = true → True) ∧
                                                                    (decide (List.getD z.fst (Int.toNat y_1.fst) (Kd.dft (Kd.int IntKind.u8)) = (255 : Int)) = true →
                                                                        (decide (List.getD z.fst (Int.toNat y_1.fst) (Kd.dft (Kd.int IntKind.u8)) = (255 : Int)) == true) = true ∧ True) ∧
                                                                      (decide (List.getD z.fst (Int.toNat y_1.fst) (Kd.dft (Kd.int IntKind.u8)) = (255 : Int)) = true →
                                                                          (decide (List.getD z.fst (Int.toNat y_1.fst) (Kd.dft (Kd.int IntKind.u8)) = (255 : Int)) == true) = true ∧
                                                                            ((0 : Int) ≤ IntKind.wrap IntKind.i64 (y_1.fst + (1 : Int)) ∧
                                                                                IntKind.wrap IntKind.i64 (y_1.fst + (1 : Int)) < (↑(8 : Nat) : Int) ∧
                                                                                  IntKind.wrap IntKind.i64 (y_1.fst + (1 : Int)) < (↑(List.length z.fst) : Int)) ∧
                                                                              True) ∧
                                                                        (decide (List.getD z.fst (Int.toNat y_1.fst) (Kd.dft (Kd.int IntKind.u8)) = (255 : Int)) = true →
                                                                            (decide (List.getD z.fst (Int.toNat y_1.fst) (Kd.dft (Kd.int IntKind.u8)) = (255 : Int)) == true) = true ∧ True) ∧
                                                                          (decide (List.getD z.fst (Int.toNat y_1.fst) (Kd.dft (Kd.int IntKind.u8)) = (255 : Int)) = true →
                                                                              (decide (List.getD z.fst (Int.toNat y_1.fst) (Kd.dft (Kd.int IntKind.u8)) = (255 : Int)) == true) = true ∧ True) ∧
                                                                            (decide (List.getD z.fst (Int.toNat y_1.fst) (Kd.dft (Kd.int IntKind.u8)) = (255 : Int)) = true →
                                                                                (decide (List.getD z.fst (Int.toNat y_1.fst) (Kd.dft (Kd.int IntKind.u8)) = (255 : Int)) == true) = true) ∧
                                                                              ((bif decide (List.getD z.fst (Int.toNat y_1.fst) (Kd.dft (Kd.int IntKind.u8)) = (255 : Int)) then
                                                                                      decide
                                                                                        ((128 : Int) ≤
                                                                                          List.getD z.fst (Int.toNat (IntKind.wrap IntKind.i64 (y_1.fst + (1 : Int)))) (Kd.dft (Kd.int IntKind.u8)))
                                                                                    else false) =
                                                                                    true →
                                                                                  Value.bool false = Value.bool false ∧
                                                                                    y.fst = y.fst ∧
                                                                                      Value.slice none (0 : Nat) (0 : Nat) = Value.slice none (0 : Nat) (0 : Nat) ∧
                                                                                        x.fst = x.fst ∧
                                                                                          z.fst = z.fst ∧
                                                                                            I (IntKind.wrap IntKind.i64 (y_1.fst + (1 : Int)), ()) () ∧
                                                                                              μ (IntKind.wrap IntKind.i64 (y_1.fst + (1 : Int)), ()) () < μ y_1 z_1) ∧
                                                                                ((bif decide (List.getD z.fst (Int.toNat y_1.fst) (Kd.dft (Kd.int IntKind.u8)) = (255 : Int)) then
                                                                                      decide
                                                                                        ((128 : Int) ≤
                                                                                          List.getD z.fst (Int.toNat (IntKind.wrap IntKind.i64 (y_1.fst + (1 : Int)))) (Kd.dft (Kd.int IntKind.u8)))
                                                                                    else false) =
                                                                                    false →
                                                                                  ((0 : Int) ≤ y_1.fst ∧ y_1.fst ≤ (↑(8 : Nat) : Int)) ∧
                                                                                    List.length z.fst = (8 : Nat) ∧
                                                                                      List.length (List.take ((8 : Nat) - Int.toNat y_1.fst) (List.drop (Int.toNat y_1.fst) z.fst)) ≤ (1000000000 : Nat) ∧
                                                                                        (∀ (y : List Int × Unit),
                                                                                            Kd.wf (Kd.sl (Kd.int IntKind.u8)) y.fst ∧ True →
                                                                                              y.fst = List.take ((8 : Nat) - Int.toNat y_1.fst) (List.drop (Int.toNat y_1.fst) z.fst) →
                                                                                                y.fst = IntD x.fst) ∧
                                                                                          True))) ∧
                                            (decide (y_1.fst < (7 : Int)) = false →
                                              ((0 : Int) ≤ y_1.fst ∧ y_1.fst ≤ (↑(8 : Nat) : Int)) ∧
                                                List.length z.fst = (8 : Nat) ∧
                                                  List.length (List.take ((8 : Nat) - Int.toNat y_1.fst) (List.drop (Int.toNat y_1.fst) z.fst)) ≤ (1000000000 : Nat) ∧
                                                    (∀ (y : List Int × Unit),
                                                        Kd.wf (Kd.sl (Kd.int IntKind.u8)) y.fst ∧ True →
                                                          y.fst = List.take ((8 : Nat) - Int.toNat y_1.fst) (List.drop (Int.toNat y_1.fst) z.fst) → y.fst = IntD x.fst) ∧
                                                      True))
theorem e23 : t23 = Con.vc c23 GL (mkEnv ty [(29, conSem c29)] [] [] [0, 2, 3, 4, 5, 6, 7, 19, 20]) {} Tryd.f23.ntmps Tryd.f23.results.toList (bodyOf Tryd.f23) := by kernel_rfl
theorem k23 : t23 := by
  unfold t23
  rintro ⟨x, u⟩ hx hp
  simp only at hx hp ⊢
  have hx3 : fit x 8 := fit8 hx.1
  refine ⟨by decide, fun y z => 0 ≤ y.1 ∧ y.1 ≤ 8 ∧ z.1.length = 8 ∧ ∀ i : Nat, (i : Int) < y.1 → z.1[i]? = (low x 8)[i]?, fun y _ => (8 - y.1).toNat, ⟨by trivial, by trivial, by omega, by omega, rfl, fun i h => by omega⟩, ?_⟩
  rintro ⟨i, u⟩ ⟨z, u'⟩ hw hw2 ⟨h1, h2, h3, h4⟩
  simp only at h1 h2 h3 h4 hw hw2 ⊢
  refine ⟨fun hc => ?_, fun hc => ?_⟩
  · have hc := of_decide_eq_true hc
    obtain ⟨n, rfl⟩ : ∃ n : Nat, i = n := ⟨i.toNat, by omega⟩
    have hwr : IntKind.wrap .i64 ((n : Int) + 1) = n + 1 := by rw [IntKind.wrap_i64]; omega
    rw [byte_i64 x n (by omega), hwr]
    refine ⟨by rw [IntKind.wrap_i64, IntKind.wrap_i64]; omega, by omega, by trivial, by trivial, ⟨by omega, by omega, by rw [List.length_set]; exact h3, fun j hj => ?_⟩, by omega⟩
    rw [Int.toNat_natCast, List.getElem?_set]
    split
    · rename_i e
      subst e
      rw [if_pos (by omega), low_at x n (by omega)]
    · exact h4 j (by omega)
  · have hc := of_decide_eq_false hc
    have hi : i = 8 := by omega
    have hz : z = low x 8 := List.ext_getElem? fun j => by
      by_cases hj : j < 8
      · exact h4 j (by omega)
      · rw [List.getElem?_eq_none (by omega), List.getElem?_eq_none (by rw [low_len]; omega)]
    subst hz
    refine ⟨fun y _ => 0 ≤ y.1 ∧ y.1 ≤ 7 ∧ fit x (8 - y.1.toNat), fun y _ => (8 - y.1).toNat, ⟨by trivial, by trivial, by trivial, by trivial, by trivial, by omega, by omega, hx3⟩, ?_⟩
    rintro ⟨j, u⟩ u' hw _ ⟨h5, h6, h7⟩
    simp only at h5 h6 h7 hw ⊢
    obtain ⟨n, rfl⟩ : ∃ n : Nat, j = n := ⟨j.toNat, by omega⟩
    rw [Int.toNat_natCast] at h7 ⊢
    have hwr : IntKind.wrap .i64 ((n : Int) + 1) = n + 1 := by rw [IntKind.wrap_i64]; omega
    have hlen : ((low x 8).drop n |>.take (8 - n)).length ≤ 1000000000 := by rw [List.length_take]; omega
    have hfin : n = 7 ∨ ¬ fit x (7 - n) → ∀ y : List Int × Unit, Kd.wf (Kd.sl (Kd.int .u8)) y.1 ∧ True → y.1 = ((low x 8).drop n).take (8 - n) → y.1 = IntD x :=
      fun h y _ e => by rw [e]; exact rest x n (by omega) h7 h
    refine ⟨fun hc => ?_, fun hc => ?_⟩
    · have hc := of_decide_eq_true hc
      have hst := fit_step x n (by omega) h7
      rw [hwr, show ((n : Int) + 1).toNat = n + 1 by omega]
      have hd : Kd.dft (Kd.int .u8) = (0 : Int) := rfl
      rw [hd]
      generalize ea : (low x 8).getD n 0 = a at hst ⊢
      generalize eb : (low x 8).getD (n + 1) 0 = b at hst ⊢
      have hnext : fit x (7 - n) → (0 ≤ (n : Int) + 1 ∧ (n : Int) + 1 ≤ 7 ∧ fit x (8 - ((n : Int) + 1).toNat)) := fun h => ⟨by omega, by omega, by rw [show 8 - ((n : Int) + 1).toNat = 7 - n by omega]; exact h⟩
      have hlow : ((low x 8).length : Int) = 8 := by rw [low_len]; rfl
      have hrange : (0 : Int) ≤ (n : Int) + 1 ∧ (n : Int) + 1 < ((8 : Nat) : Int) ∧ (n : Int) + 1 < ((low x 8).length : Int) := by rw [hlow]; omega
      refine ⟨by rw [hlow]; omega, fun _ => trivial, fun h => ⟨by simp [h], trivial⟩, fun h => ⟨by simp [h], hrange, trivial⟩, fun h => ⟨by simp [h], trivial⟩, fun h => ⟨by simp [h], trivial⟩, fun h => by simp [h], ?_, ?_⟩
      · refine fun hb => ⟨by trivial, by trivial, by trivial, by trivial, by trivial, ?_, by omega⟩
        have hb' : a = 0 ∧ b < 128 := by simpa using hb
        exact hnext (hst.1 (.inl hb'))
      · refine fun hb => ⟨by rw [hlow]; omega, fun _ => trivial, fun h => ⟨by simp [h], trivial⟩, fun h => ⟨by simp [h], hrange, trivial⟩, fun h => ⟨by simp [h], trivial⟩, fun h => ⟨by simp [h], trivial⟩, fun h => by simp [h], ?_, ?_⟩
        · refine fun hb3 => ⟨by trivial, by trivial, by trivial, by trivial, by trivial, ?_, by omega⟩
          have hb' : a = 255 ∧ 128 ≤ b := by simpa using hb3
          exact hnext (hst.1 (.inr hb'))
        · refine fun hb3 => ⟨by omega, low_len x 8, hlen, hfin (.inr fun hf => ?_), trivial⟩
          rcases hst.2 hf with h | h
          · simp [h.1, h.2] at hb
          · simp [h.1, h.2] at hb3
    · have hc := of_decide_eq_false hc
      exact ⟨by omega, low_len x 8, hlen, hfin (.inl (by omega)), trivial⟩
theorem h23 : c23.ok Tryd.prog GL 23 := con_ok (H := {}) (mkEnv_ok (gl := GL) (l := [(29, conSem c29)]) (q := []) (d := []) _ tyOk (by kernel_rfl) ⟨h29.call, trivial⟩ trivial trivial) (by kernel_rfl) (by kernel_rfl) (Eq.mp e23 k23)

def t24 : Prop :=
  ∀ (x : Int × Unit),
    Kd.wf (Kd.int IntKind.u16) x.fst ∧ True →
      True →
        True ∧
          (∀ (y : Int × Unit),
              Kd.wf (Kd.int IntKind.u16) y.fst ∧ True →
                y.fst = (↑(prev (Int.toNat x.fst / (256 : Nat)) (8 : Nat)) : Int) + (256 : Int) * (↑(prev (Int.toNat x.fst % (256 : Nat)) (8 : Nat)) : Int) →
                  (decide (x.fst = (0 : Int)) = true → [(0 : Int)] = FlagsD (Int.toNat x.fst)) ∧
                    (decide (x.fst = (0 : Int)) = false →
                      (decide (x.fst < (256 : Int)) = true →
                          True ∧
                            (∀ (y_1 : Int × Unit),
                                Kd.wf (Kd.int IntKind.i64) y_1.fst ∧ True →
                                  (y_1.fst = if x.fst < (256 : Int) then (↑(lastb (Int.toNat x.fst) (8 : Nat)) : Int) else (8 : Int) + (↑(lastb (Int.toNat x.fst / (256 : Nat)) (8 : Nat)) : Int)) →
                                    (0 : Int) ≤ (8 : Int) ∧
                                      [IntKind.wrap IntKind.u8 (IntKind.wrap IntKind.i64 ((8 : Int) - y_1.fst)), IntKind.wrap IntKind.u8 (Int.fdiv y.fst ((2 : Int) ^ (8 : Nat)))] =
                                        FlagsD (Int.toNat x.fst)) ∧
                              True) ∧
                        (decide (x.fst < (256 : Int)) = false →
                          True ∧
                            (∀ (y_1 : Int × Unit),
                                Kd.wf (Kd.int IntKind.i64) y_1.fst ∧ True →
                                  (y_1.fst = if x.fst < (256 : Int) then (↑(lastb (Int.toNat x.fst) (8 : Nat)) : Int) else (8 : Int) + (↑(lastb (Int.toNat x.fst / (256 : Nat)) (8 : Nat)) : Int)) →
                                    (0 : Int) ≤ (8 : Int) ∧
                                      [IntKind.wrap IntKind.u8 (IntKind.wrap IntKind.i64 ((16 : Int) - y_1.fst)), IntKind.wrap IntKind.u8 (Int.fdiv y.fst ((2 : Int) ^ (8 : Nat))),
                                          IntKind.wrap IntKind.u8 y.fst] =
                                        FlagsD (Int.toNat x.fst)) ∧
                              True))) ∧
            True
theorem e24 : t24 = Con.vc c24 GL (mkEnv ty [(36, conSem c36), (37, conSem c37)] [] [] [0, 2, 3, 6, 10]) {} Tryd.f24.ntmps Tryd.f24.results.toList (bodyOf Tryd.f24) := by kernel_rfl
theorem k24 : t24 := by
  unfold t24
  rintro ⟨x, _⟩ hx hp
  obtain ⟨n, rfl, hn⟩ := u16_nat hx.1
  simp only [true_and, and_true, eq_self_iff_true, implies_true, reduceCtorEq, false_implies, true_implies, decide_eq_true_eq, decide_eq_false_iff_not, beq_self_eq_true, Bool.not_eq_true', ne_eq, Decidable.not_not, List.nil_append, List.length_singleton, List.length_cons, List.length_nil, Nat.zero_add, Nat.add_zero, Nat.mul_one, and_self, beq_iff_eq, Bool.not_true, Bool.not_false, Bool.not_eq_false', Bool.cond_false_right, Bool.and_eq_true, imp_self, Bool.not_eq_true, Bool.cond_true_left, Bool.or_eq_true, Int.toNat_natCast]
  rintro ⟨r, _⟩ hw er
  simp only at er ⊢
  have p1 := prev_lt (n / 256) (by omega)
  have p2 := prev_lt (n % 256) (by omega)
  have er' : r = ((prev (n / 256) 8 + 256 * prev (n % 256) 8 : Nat) : Int) := by rw [er]; omega
  have e8 : IntKind.wrap .u8 (r.fdiv (2 ^ 8)) = (prev (n % 256) 8 : Int) := by
    rw [er', fdiv8]; simp [IntKind.wrap, IntKind.signed, IntKind.bits]; omega
  have e9 : IntKind.wrap .u8 r = (prev (n / 256) 8 : Int) := by
    rw [er']; simp [IntKind.wrap, IntKind.signed, IntKind.bits]; omega
  refine ⟨fun h => ?_, fun h => ⟨fun h1 => ?_, fun h1 => ?_⟩⟩
  · have : n = 0 := by omega
    subst this; rfl
  · rintro ⟨l, _⟩ hwl el
    simp only at el ⊢
    rw [if_pos h1] at el
    have hl := lastb_le n 8
    have e2 : IntKind.wrap .u8 (IntKind.wrap .i64 (8 - l)) = 8 - (lastb n 8 : Int) := by
      rw [el, wrapk _ (by omega) (by omega)]; simp [IntKind.wrap, IntKind.signed, IntKind.bits]; omega
    refine ⟨by decide, ?_⟩
    rw [e2, e8, FlagsD, if_neg (by omega), if_pos (by omega), Nat.mod_eq_of_lt (show n < 256 by omega)]
  · rintro ⟨l, _⟩ hwl el
    simp only at el ⊢
    rw [if_neg h1] at el
    have hl := lastb_le (n / 256) 8
    have e2 : IntKind.wrap .u8 (IntKind.wrap .i64 (16 - l)) = 8 - (lastb (n / 256) 8 : Int) := by
      rw [el, wrapk _ (by omega) (by omega)]; simp [IntKind.wrap, IntKind.signed, IntKind.bits]; omega
    refine ⟨by decide, ?_⟩
    rw [e2, e8, e9, FlagsD, if_neg (by omega), if_neg (by omega)]
theorem h24 : c24.ok Tryd.prog GL 24 := con_ok (H := {}) (mkEnv_ok (gl := GL) (l := [(36, conSem c36), (37, conSem c37)]) (q := []) (d := []) _ tyOk (by kernel_rfl) ⟨h36.call, h37.call, trivial⟩ trivial trivial) (by kernel_rfl) (by kernel_rfl) (Eq.mp e24 k24)

def t25 : Prop :=
  ∀ (x : List Int × Int × Unit),
    Kd.wf (Kd.sl (Kd.int IntKind.u8)) x.fst ∧ Kd.wf (Kd.int IntKind.i64) x.snd.fst ∧ True →
      List.length x.fst ≤ (1048576 : Nat) →
        True ∧
          (∀ (y : Bool × Unit),
              Kd.wf Kd.bool y.fst ∧ True →
                y.fst = FitsD x.fst x.snd.fst →
                  ((!y.fst) = true → ([], (2 : Int)) = BitsD x.fst x.snd.fst) ∧
                    ((!y.fst) = false →
                      (List.length [[IntKind.wrap IntKind.u8 x.snd.fst], x.fst] ≤ (100 : Nat) ∧ ∀ (l : List Int), l ∈ [[IntKind.wrap IntKind.u8 x.snd.fst], x.fst] → List.length l ≤ (10000000 : Nat)) ∧
                        (∀ (y : List Int × Unit),
                            Kd.wf (Kd.sl (Kd.int IntKind.u8)) y.fst ∧ True → y.fst = List.flatten [[IntKind.wrap IntKind.u8 x.snd.fst], x.fst] → (y.fst, (0 : Int)) = BitsD x.fst x.snd.fst) ∧
                          True)) ∧
            True
theorem e25 : t25 = Con.vc c25 GL (mkEnv ty [(34, conSem c34), (28, conSem c28)] [] [] [0, 1, 4, 5, 9]) {} Tryd.f25.ntmps Tryd.f25.results.toList (bodyOf Tryd.f25) := by kernel_rfl
theorem k25 : t25 := by
  unfold t25
  rintro ⟨l, n, _⟩ hx hp
  have hp : l.length ≤ 1048576 := hp
  simp only [true_and, and_true, eq_self_iff_true, implies_true, reduceCtorEq, false_implies, true_implies, decide_eq_true_eq, decide_eq_false_iff_not, beq_self_eq_true, Bool.not_eq_true', ne_eq, Decidable.not_not, List.nil_append, List.length_singleton, List.length_cons, List.length_nil, Nat.zero_add, Nat.add_zero, Nat.mul_one, and_self, beq_iff_eq, Bool.not_true, Bool.not_false, Bool.not_eq_false', Bool.cond_false_right, Bool.and_eq_true, imp_self, Bool.not_eq_true, Bool.cond_true_left, Bool.or_eq_true]
  rintro ⟨b, _⟩ _ eb
  simp only at eb ⊢
  refine ⟨fun h => ?_, fun h => ⟨⟨by decide, fun l' hl' => ?_⟩, fun y _ ey => ?_⟩⟩
  · simp [BitsD, ← eb, h]
  · simp at hl'
    rcases hl' with rfl | rfl
    · simp
    · omega
  · have hn : 0 ≤ n ∧ n ≤ 7 := by
      rw [h] at eb
      unfold FitsD at eb
      split at eb
      · cases eb
      · omega
    have hw : IntKind.wrap .u8 n = n := by simp [IntKind.wrap, IntKind.signed, IntKind.bits]; omega
    rw [ey, hw]
    simp [BitsD, ← eb, h]
theorem h25 : c25.ok Tryd.prog GL 25 := con_ok (H := {}) (mkEnv_ok (gl := GL) (l := [(34, conSem c34), (28, conSem c28)]) (q := []) (d := []) _ tyOk (by kernel_rfl) ⟨h34.call, h28.call, trivial⟩ trivial trivial) (by kernel_rfl) (by kernel_rfl) (Eq.mp e25 k25)

end Go.Proofs.YtgikinbkhhfgiaaDoor
