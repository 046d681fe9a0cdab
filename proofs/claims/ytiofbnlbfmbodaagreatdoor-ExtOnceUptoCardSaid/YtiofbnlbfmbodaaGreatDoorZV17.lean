import Derived.Test.YtiofbnlbfmbodaaGreatDoorZV07
set_option linter.unusedVariables false
set_option linter.unusedSimpArgs false
namespace Go.Pl
open Go.Vc
set_option linter.unusedVariables false
set_option linter.unusedSimpArgs false
def BoolD (b : Bool) : List Int := if b then [255] else [0]
def low (x : Int) : Nat → List Int
  | 0 => []
  | n + 1 => (x / 256 ^ n) % 256 :: low x n
def wide (x : Int) : Nat → Nat → Nat
  | _, 0 => 8
  | n, k + 1 => if -(2 ^ (8 * n - 1) : Int) ≤ x ∧ x < 2 ^ (8 * n - 1) then n else wide x (n + 1) k
def IntD (x : Int) : List Int := low x (wide x 1 7)
def prev (b : Nat) : Nat → Nat
  | 0 => 0
  | n + 1 => prev b n + (if (b / 2 ^ n) % 2 = 1 then 128 / 2 ^ n else 0)
def lastb (x : Nat) : Nat → Nat
  | 0 => 0
  | n + 1 => if (x / 2 ^ n) % 2 = 1 then n + 1 else lastb x n
def FlagsD (x : Nat) : List Int :=
  if x = 0 then [0] else if x < 256 then [8 - (lastb x 8 : Int), (prev x 8 : Int)] else [8 - (lastb (x / 256) 8 : Int), (prev (x % 256) 8 : Int), (prev (x / 256) 8 : Int)]
def FitsD (x : List Int) (n : Int) : Bool := if n < 0 ∨ 7 < n then false else if x = [] then decide (n = 0) else decide (x.getLastD 0 % 2 ^ n.toNat = 0)
def ShortD : List Int → Bool
  | [] => false
  | [_] => true
  | a :: b :: _ => !(decide (a = 0) && decide (b < 128) || decide (a = 255) && decide (128 ≤ b))
def nvalD (l : List Int) : Int := l.foldl (fun v b => v * 256 + b) (if 128 ≤ l.headD 0 then -1 else 0)
def ToIntD (l : List Int) : Int × Int := if ShortD l = false then (0, 20) else if 8 < l.length then (0, 21) else (nvalD l, 0)
def ToBoolD (l : List Int) : Bool × Int := if l = [255] then (true, 0) else if l = [0] then (false, 0) else (false, 20)
def ToBitsD : List Int → List Int × Int × Int
  | [] => ([], 0, 20)
  | a :: r => if FitsD r a then (r, a, 0) else ([], 0, 20)
def flagsD : List Int → Int
  | [] => 0
  | [a] => prev a.toNat 8
  | a :: b :: _ => prev a.toNat 8 + 256 * prev b.toNat 8
def ToFlagsD (l : List Int) : Int × Int :=
  if (ToBitsD l).2.2 ≠ 0 then (0, (ToBitsD l).2.2) else
  if (ToBitsD l).1 ≠ [] ∧ ((ToBitsD l).1.getLastD 0 / 2 ^ (ToBitsD l).2.1.toNat) % 2 = 0 then (0, 20) else
  if 2 < (ToBitsD l).1.length then (0, 21) else (flagsD (ToBitsD l).1, 0)
abbrev LIM : Nat := 2000000
theorem and_low (b : Int) (n : Nat) (h0 : 0 ≤ b) (h1 : b ≤ 255) (hn : n ≤ 7) : IntKind.wrap .u8 ↑(BitVec.ofInt 8 b &&& BitVec.ofInt 8 (IntKind.wrap .u8 (IntKind.wrap .u8 (1 * 2 ^ min n 8) - 1))).toNat = b % 2 ^ n := by
  have key : ∀ b : Fin 256, ∀ n : Fin 8, IntKind.wrap .u8 ↑(BitVec.ofInt 8 (b.val : Int) &&& BitVec.ofInt 8 (IntKind.wrap .u8 (IntKind.wrap .u8 (1 * 2 ^ min n.val 8) - 1))).toNat = (b.val : Int) % 2 ^ n.val := by decide +kernel
  have := key ⟨b.toNat, by omega⟩ ⟨n, by omega⟩
  simpa [Int.toNat_of_nonneg h0] using this
theorem byte_get {l : List Int} (h : Kd.wf BY l) (i : Nat) : 0 ≤ l.getD i 0 ∧ l.getD i 0 ≤ 255 := by
  by_cases hi : i < l.length
  . have := h.2 l[i] (List.getElem_mem hi)
    rw [List.getD_eq_getElem?_getD, List.getElem?_eq_getElem hi]
    have h2 : InR .u8 l[i] := this
    simpa [InR, IntKind.min, IntKind.max, IntKind.signed, IntKind.bits] using h2
  . rw [List.getD_eq_getElem?_getD, List.getElem?_eq_none (by omega)]
    decide
theorem nlast_get (l : List Int) (h : l ≠ []) : l.getD (l.length - 1) 0 = l.getLastD 0 := by
  rw [List.getD_eq_getElem?_getD, ← List.getLast?_eq_getElem?, List.getLastD_eq_getLast?]
theorem wrapk (i : Int) (h0 : -9000000000000000000 ≤ i) (h1 : i ≤ 9000000000000000000) : IntKind.wrap .i64 i = i := by rw [IntKind.wrap_i64]; omega
def fit (x : Int) (n : Nat) : Prop := -(2 ^ (8 * n - 1) : Int) ≤ x ∧ x < 2 ^ (8 * n - 1)
theorem fit_step (x : Int) (j : Nat) (hj : j ≤ 6) (hf : fit x (8 - j)) :
    (((low x 8).getD j 0 = 0 ∧ (low x 8).getD (j + 1) 0 < 128) ∨ ((low x 8).getD j 0 = 255 ∧ 128 ≤ (low x 8).getD (j + 1) 0)) ↔ fit x (7 - j) := by
  match j, hj with
  | 0, _ | 1, _ | 2, _ | 3, _ | 4, _ | 5, _ | 6, _ => simp [low, fit] at hf ⊢; omega
theorem wide_eq (x : Int) (n : Nat) (h1 : 1 ≤ n) (h8 : n ≤ 8) (hf : fit x n) (hn : n = 1 ∨ ¬ fit x (n - 1)) : wide x 1 7 = n := by
  match n, h1, h8 with
  | 1, _, _ | 2, _, _ | 3, _, _ | 4, _, _ | 5, _, _ | 6, _, _ | 7, _, _ | 8, _, _ =>
    simp [fit] at hf hn
    simp only [wide]
    repeat' split
    all_goals first | rfl | (exfalso; simp at *; omega)
theorem low_drop (x : Int) (j : Nat) (hj : j ≤ 8) : (low x 8).drop j = low x (8 - j) := by
  match j, hj with
  | 0, _ | 1, _ | 2, _ | 3, _ | 4, _ | 5, _ | 6, _ | 7, _ | 8, _ => rfl
theorem nlow_len (x : Int) : ∀ n, (low x n).length = n
  | 0 => rfl
  | n + 1 => by simp [low, nlow_len x n]
theorem low_at (x : Int) (i : Nat) (hi : i < 8) : (low x 8)[i]? = some ((x / 256 ^ (7 - i)) % 256) := by
  match i, hi with
  | 0, _ | 1, _ | 2, _ | 3, _ | 4, _ | 5, _ | 6, _ | 7, _ => rfl
theorem byte_i64 (x : Int) (n : Nat) (hn : n ≤ 7) : IntKind.wrap .u8 (Int.fdiv x (2 ^ min (IntKind.wrap .i64 (56 - IntKind.wrap .i64 (8 * (n : Int)))).toNat 64)) = (x / 256 ^ (7 - n)) % 256 := by
  match n, hn with
  | 0, _ | 1, _ | 2, _ | 3, _ | 4, _ | 5, _ | 6, _ | 7, _ =>
    simp [IntKind.wrap, IntKind.signed, IntKind.bits, Int.fdiv_eq_ediv_of_nonneg]
theorem fit8 {x : Int} (h : InR .i64 x) : fit x 8 := by
  simp [InR, IntKind.min, IntKind.max, IntKind.signed, IntKind.bits] at h
  simp [fit]
  omega
theorem rest (x : Int) (j : Nat) (hj : j ≤ 7) (hf : fit x (8 - j)) (hn : j = 7 ∨ ¬ fit x (7 - j)) : ((low x 8).drop j).take (8 - j) = IntD x := by
  rw [low_drop x j (by omega), List.take_of_length_le (by rw [nlow_len]; exact Nat.le_refl _), IntD, wide_eq x (8 - j) (by omega) (by omega) hf]
  rcases hn with h | h
  . exact .inl (by omega)
  . exact .inr (by rw [show 8 - j - 1 = 7 - j by omega]; exact h)
theorem lastb_le (n : Nat) : ∀ j, lastb n j ≤ j
  | 0 => Nat.le_refl _
  | j + 1 => by
    simp only [lastb]
    split
    . exact Nat.le_refl _
    . exact Nat.le_succ_of_le (lastb_le n j)
theorem prev_lt (b : Nat) (h : b < 256) : prev b 8 < 256 := by
  have key : ∀ b : Fin 256, prev b.val 8 < 256 := by decide +kernel
  exact key ⟨b, h⟩
theorem u16_nat {x : Int} (h : Kd.wf (.int .u16) x) : ∃ n : Nat, x = n ∧ n < 65536 := by
  have h : InR .u16 x := h
  simp [InR, IntKind.min, IntKind.max, IntKind.signed, IntKind.bits] at h
  exact ⟨x.toNat, by omega, by omega⟩
theorem u16_and (n : Nat) (h : n < 65536) : IntKind.wrap .u16 ↑(BitVec.ofInt 16 (n : Int) &&& BitVec.ofInt 16 255).toNat = ((n % 256 : Nat) : Int) := by
  have e : (BitVec.ofInt 16 (n : Int) &&& BitVec.ofInt 16 255).toNat = n % 256 := by
    rw [BitVec.toNat_and, BitVec.ofInt_natCast, BitVec.toNat_ofNat, Nat.mod_eq_of_lt (show n < 2 ^ 16 by omega), show (BitVec.ofInt 16 255).toNat = 2 ^ 8 - 1 from rfl, Nat.and_two_pow_sub_one_eq_mod]
  rw [e]
  simp [IntKind.wrap, IntKind.signed, IntKind.bits]
  omega
theorem u16_or (a b : Nat) (ha : a < 256) (hb : b < 256) : IntKind.wrap .u16 ↑(BitVec.ofInt 16 (IntKind.wrap .u16 (a : Int)) ||| BitVec.ofInt 16 (IntKind.wrap .u16 (IntKind.wrap .u16 (b : Int) * 2 ^ 8))).toNat = (a : Int) + 256 * (b : Int) := by
  have e1 : IntKind.wrap .u16 (a : Int) = (a : Nat) := by simp [IntKind.wrap, IntKind.signed, IntKind.bits]; omega
  have e2 : IntKind.wrap .u16 (IntKind.wrap .u16 (b : Int) * 2 ^ 8) = ((2 ^ 8 * b : Nat) : Int) := by simp [IntKind.wrap, IntKind.signed, IntKind.bits]; omega
  rw [e1, e2, BitVec.toNat_or, BitVec.ofInt_natCast, BitVec.ofInt_natCast, BitVec.toNat_ofNat, BitVec.toNat_ofNat, Nat.mod_eq_of_lt (show a < 2 ^ 16 by omega), Nat.mod_eq_of_lt (show 2 ^ 8 * b < 2 ^ 16 by omega), Nat.or_comm, ← Nat.two_pow_add_eq_or_of_lt (show a < 2 ^ 8 by omega)]
  simp [IntKind.wrap, IntKind.signed, IntKind.bits]
  omega
theorem fdiv8 (n : Nat) : ((n : Int).fdiv (2 ^ 8)) = ((n / 256 : Nat) : Int) := by
  rw [Int.fdiv_eq_ediv_of_nonneg _ (by decide)]; rfl
theorem get_bnd {l : List Int} (h : Kd.wf BY l) (i : Nat) : 0 ≤ l.getD i 0 ∧ l.getD i 0 ≤ 255 := byte_get h i
theorem head_bnd {a : Int} {r : List Int} (h : Kd.wf BY (a :: r)) : 0 ≤ a ∧ a ≤ 255 := byte_get h 0
theorem tail_wf {a : Int} {r : List Int} (h : Kd.wf BY (a :: r)) : Kd.wf BY r := ⟨Nat.le_trans (by simp) h.1, fun x hx => h.2 x (List.mem_cons_of_mem _ hx)⟩
def foldB (v : Int) (l : List Int) : Int := l.foldl (fun v b => v * 256 + b) v
theorem fold_snoc (v : Int) (l : List Int) (b : Int) : foldB v (l ++ [b]) = foldB v l * 256 + b := by simp [foldB]
theorem ntake_snoc (l : List Int) (i : Nat) (h : i < l.length) : l.take (i + 1) = l.take i ++ [l.getD i 0] := by
  rw [List.take_add_one, List.getD_eq_getElem?_getD, List.getElem?_eq_getElem h]
  rfl
theorem fold_bnd : ∀ (l : List Int) (v : Int), (∀ b ∈ l, 0 ≤ b ∧ b ≤ 255) → v * 256 ^ l.length ≤ foldB v l ∧ foldB v l ≤ v * 256 ^ l.length + 256 ^ l.length - 1
  | [], v, _ => by simp [foldB]
  | b :: l, v, h => by
    have ih := fold_bnd l (v * 256 + b) (fun c hc => h c (List.mem_cons_of_mem _ hc))
    have hb := h b (by simp)
    have hp : (0 : Int) < 256 ^ l.length := Int.pow_pos (by decide)
    have e : foldB v (b :: l) = foldB (v * 256 + b) l := rfl
    rw [e, List.length_cons, Int.pow_succ]
    have h1 : v * 256 * 256 ^ l.length ≤ (v * 256 + b) * 256 ^ l.length := Int.mul_le_mul_of_nonneg_right (by omega) (by omega)
    have h2 : (v * 256 + b) * 256 ^ l.length ≤ (v * 256 + 255) * 256 ^ l.length := Int.mul_le_mul_of_nonneg_right (by omega) (by omega)
    have e1 : v * (256 ^ l.length * 256) = v * 256 * 256 ^ l.length := by rw [Int.mul_comm (256 ^ l.length) 256, Int.mul_assoc]
    have e2 : (v * 256 + 255) * 256 ^ l.length = v * 256 * 256 ^ l.length + 255 * 256 ^ l.length := Int.add_mul _ _ _
    rw [e1]
    omega
theorem pow256' (n : Nat) (h : n ≤ 6) : (256 : Int) ^ n ≤ 256 ^ 6 := by
  match n, h with
  | 0, _ | 1, _ | 2, _ | 3, _ | 4, _ | 5, _ | 6, _ => decide
def sx (a : Int) : Int := if 128 ≤ a then a - 256 else a
theorem sx_bnd {a : Int} (h : 0 ≤ a ∧ a ≤ 255) : -128 ≤ sx a ∧ sx a ≤ 127 := by unfold sx; split <;> omega
theorem sx_eq {a : Int} (h : 0 ≤ a ∧ a ≤ 255) : IntKind.wrap .i64 (IntKind.wrap .i8 a) = sx a := by
  have key : ∀ a : Fin 256, IntKind.wrap .i64 (IntKind.wrap .i8 (a.val : Int)) = sx (a.val : Int) := by decide +kernel
  have := key ⟨a.toNat, by omega⟩
  simpa [Int.toNat_of_nonneg h.1] using this
theorem val_cons {a : Int} (r : List Int) (h : 0 ≤ a ∧ a ≤ 255) : nvalD (a :: r) = foldB (sx a) r := by
  unfold nvalD sx foldB
  simp only [List.headD_cons, List.foldl_cons]
  congr 1
  split <;> omega
theorem fold_fit6 {a : Int} {r : List Int} (h : Kd.wf BY (a :: r)) (n : Nat) (hn : n ≤ 6) : -36028797018963968 ≤ foldB (sx a) (r.take n) ∧ foldB (sx a) (r.take n) < 36028797018963968 := by
  have hb := sx_bnd (head_bnd h)
  have ht := tail_wf h
  have h1 := fold_bnd (r.take n) (sx a) (fun b hb => by
    have := ht.2 b (List.mem_of_mem_take hb)
    have h2 : InR .u8 b := this
    simpa [InR, IntKind.min, IntKind.max, IntKind.signed, IntKind.bits] using h2)
  have hlen : (r.take n).length ≤ 6 := by simp; omega
  have hp := pow256' _ hlen
  have hp0 : (0 : Int) < 256 ^ (r.take n).length := Int.pow_pos (by decide)
  generalize (256 : Int) ^ (r.take n).length = P at h1 hp hp0
  have h3 : -128 * P ≤ sx a * P := Int.mul_le_mul_of_nonneg_right hb.1 (by omega)
  have h4 : sx a * P ≤ 127 * P := Int.mul_le_mul_of_nonneg_right hb.2 (by omega)
  have : (256 : Int) ^ 6 = 281474976710656 := by decide
  omega
theorem or_byte (v b : Int) (hb : 0 ≤ b ∧ b ≤ 255) (hv : -36028797018963968 ≤ v ∧ v < 36028797018963968) :
    IntKind.wrap .i64 ↑(BitVec.ofInt 64 (IntKind.wrap .i64 (v * 2 ^ 8)) ||| BitVec.ofInt 64 (IntKind.wrap .i64 b)).toNat = v * 256 + b := by
  have w1 : IntKind.wrap .i64 (v * 2 ^ 8) = v * 256 := by rw [IntKind.wrap_i64]; omega
  have w2 : IntKind.wrap .i64 b = b := by rw [IntKind.wrap_i64]; omega
  rw [w1, w2, BitVec.toNat_or, BitVec.toNat_ofInt, BitVec.toNat_ofInt]
  have e1 : (v * 256 % ((2 ^ 64 : Nat) : Int)).toNat = (v % 72057594037927936).toNat <<< 8 := by rw [Nat.shiftLeft_eq]; omega
  have e2 : (b % ((2 ^ 64 : Nat) : Int)).toNat = b.toNat := by omega
  rw [e1, e2, ← Nat.shiftLeft_add_eq_or_of_lt (by omega), Nat.shiftLeft_eq, IntKind.wrap_i64]
  omega
theorem bits_spec {l bits : List Int} {un code : Int} (h : (bits, un, code) = ToBitsD l) : (code = 0 ∧ FitsD bits un = true ∧ l = un :: bits) ∨ (bits = [] ∧ un = 0 ∧ code = 20) := by
  cases l with
  | nil => cases h; exact .inr ⟨rfl, rfl, rfl⟩
  | cons a r =>
    rw [ToBitsD] at h
    split at h
    . rename_i hf; cases h; exact .inl ⟨rfl, hf, rfl⟩
    . cases h; exact .inr ⟨rfl, rfl, rfl⟩
theorem fits_rng {l : List Int} {n : Int} (h : FitsD l n = true) : 0 ≤ n ∧ n ≤ 7 ∧ (l = [] → n = 0) ∧ (l ≠ [] → l.getLastD 0 % 2 ^ n.toNat = 0) := by
  unfold FitsD at h
  split at h
  . cases h
  . rename_i hn
    refine ⟨by omega, by omega, fun e => ?_, fun e => ?_⟩
    . rw [if_pos e] at h; exact of_decide_eq_true h
    . rw [if_neg e] at h; exact of_decide_eq_true h
theorem and_bit (b : Int) (n : Nat) (h0 : 0 ≤ b ∧ b ≤ 255) (hn : n ≤ 7) : IntKind.wrap .u8 ↑(BitVec.ofInt 8 b &&& BitVec.ofInt 8 (IntKind.wrap .u8 (1 * 2 ^ min n 8))).toNat = 0 ↔ (b / 2 ^ n) % 2 = 0 := by
  have key : ∀ b : Fin 256, ∀ n : Fin 8, IntKind.wrap .u8 ↑(BitVec.ofInt 8 (b.val : Int) &&& BitVec.ofInt 8 (IntKind.wrap .u8 (1 * 2 ^ min n.val 8))).toNat = 0 ↔ ((b.val : Int) / 2 ^ n.val) % 2 = 0 := by decide +kernel
  have := key ⟨b.toNat, by omega⟩ ⟨n, by omega⟩
  simpa [Int.toNat_of_nonneg h0.1] using this
theorem nor16 (v b : Int) (hb : 0 ≤ b ∧ b ≤ 255) (hv : 0 ≤ v ∧ v ≤ 255) : IntKind.wrap .u16 ↑(BitVec.ofInt 16 (v * 256) ||| BitVec.ofInt 16 b).toNat = v * 256 + b := by
  rw [BitVec.toNat_or, BitVec.toNat_ofInt, BitVec.toNat_ofInt]
  have e1 : (v * 256 % ((2 ^ 16 : Nat) : Int)).toNat = v.toNat <<< 8 := by rw [Nat.shiftLeft_eq]; omega
  have e2 : (b % ((2 ^ 16 : Nat) : Int)).toNat = b.toNat := by omega
  rw [e1, e2, ← Nat.shiftLeft_add_eq_or_of_lt (by omega), Nat.shiftLeft_eq]
  simp [IntKind.wrap, IntKind.signed, IntKind.bits]
  omega
theorem hi_eq (a : Int) (h : 0 ≤ a ∧ a ≤ 255) : IntKind.wrap .u16 ↑(BitVec.ofInt 16 0 ||| BitVec.ofInt 16 (IntKind.wrap .u16 (IntKind.wrap .u16 a * 2 ^ min (IntKind.wrap .i64 (8 - IntKind.wrap .i64 (8 * 0))).toNat 16))).toNat = a * 256 := by
  have key : ∀ a : Fin 256, IntKind.wrap .u16 ↑(BitVec.ofInt 16 0 ||| BitVec.ofInt 16 (IntKind.wrap .u16 (IntKind.wrap .u16 (a.val : Int) * 2 ^ min (IntKind.wrap .i64 (8 - IntKind.wrap .i64 (8 * 0))).toNat 16))).toNat = (a.val : Int) * 256 := by decide +kernel
  have := key ⟨a.toNat, by omega⟩
  simpa [Int.toNat_of_nonneg h.1] using this
theorem lo_eq (a : Int) (h : 0 ≤ a ∧ a ≤ 255) : IntKind.wrap .u16 (IntKind.wrap .u16 a * 2 ^ min (IntKind.wrap .i64 (8 - IntKind.wrap .i64 (8 * 1))).toNat 16) = a := by
  have key : ∀ a : Fin 256, IntKind.wrap .u16 (IntKind.wrap .u16 (a.val : Int) * 2 ^ min (IntKind.wrap .i64 (8 - IntKind.wrap .i64 (8 * 1))).toNat 16) = (a.val : Int) := by decide +kernel
  have := key ⟨a.toNat, by omega⟩
  simpa [Int.toNat_of_nonneg h.1] using this
def acc (l : List Int) : Nat → Nat
  | 0 => 0
  | i + 1 => acc l i + if (l.getD (i / 8) 0).toNat / 2 ^ (7 - i % 8) % 2 = 1 then 2 ^ i else 0
end Go.Pl
