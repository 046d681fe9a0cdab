/- Walks. -/
import Derived.Test.YtgikinbkhhfgiaaDoorZW
set_option linter.unusedVariables false
set_option linter.unusedSimpArgs false
namespace Go.Proofs.YtgikinbkhhfgiaaDoor
open Go Go.Vc Go.Proofs
set_option linter.unusedVariables false
set_option linter.unusedSimpArgs false
theorem get_bnd {l : List Int} (h : Kd.wf BY l) (i : Nat) : 0 ≤ l.getD i 0 ∧ l.getD i 0 ≤ 255 := byte_get h i
theorem head_bnd {a : Int} {r : List Int} (h : Kd.wf BY (a :: r)) : 0 ≤ a ∧ a ≤ 255 := byte_get h 0
theorem tail_wf {a : Int} {r : List Int} (h : Kd.wf BY (a :: r)) : Kd.wf BY r := ⟨Nat.le_trans (by simp) h.1, fun x hx => h.2 x (List.mem_cons_of_mem _ hx)⟩
def foldB (v : Int) (l : List Int) : Int := l.foldl (fun v b => v * 256 + b) v
theorem fold_snoc (v : Int) (l : List Int) (b : Int) : foldB v (l ++ [b]) = foldB v l * 256 + b := by simp [foldB]
theorem take_snoc (l : List Int) (i : Nat) (h : i < l.length) : l.take (i + 1) = l.take i ++ [l.getD i 0] := by
  rw [List.take_add_one, List.getD_eq_getElem?_getD, List.getElem?_eq_getElem h]
  rfl
theorem fold_bnd : ∀ (l : List Int) (v : Int), (∀ b ∈ l, 0 ≤ b ∧ b ≤ 255) → v * 256 ^ l.length ≤ foldB v l ∧ foldB v l ≤ v * 256 ^ l.length + 256 ^ l.length - 1
  | [], v, _ => by simp [foldB]
  | b :: l, v, h => by
    have ih := fold_bnd l (v * 256 + b) (fun c hc => h c (List.mem_cons_of_mem _ hc))
    have hb := h b (by simp)
    have hp : (0 : Int) < 256 ^ l.length := Int.pow_pos (by decide)
    have e : foldB v (b :: l) = foldB (v * 256 + b) l := rfl
    rw [e, List.length_cons, Int.pow_succ]
    have h1 : v * 256 * 256 ^ l.length ≤ (v * 256 + b) * 256 ^ l.length := Int.mul_le_mul_of_nonneg_right (by omega) (by omega)
    have h2 : (v * 256 + b) * 256 ^ l.length ≤ (v * 256 + 255) * 256 ^ l.length := Int.mul_le_mul_of_nonneg_right (by omega) (by omega)
    have e1 : v * (256 ^ l.length * 256) = v * 256 * 256 ^ l.length := by rw [Int.mul_comm (256 ^ l.length) 256, Int.mul_assoc]
    have e2 : (v * 256 + 255) * 256 ^ l.length = v * 256 * 256 ^ l.length + 255 * 256 ^ l.length := Int.add_mul _ _ _
    rw [e1]
    omega
theorem pow256 (n : Nat) (h : n ≤ 7) : (256 : Int) ^ n ≤ 256 ^ 7 := by
  match n, h with
  | 0, _ | 1, _ | 2, _ | 3, _ | 4, _ | 5, _ | 6, _ | 7, _ => decide
theorem pow256' (n : Nat) (h : n ≤ 6) : (256 : Int) ^ n ≤ 256 ^ 6 := by
  match n, h with
  | 0, _ | 1, _ | 2, _ | 3, _ | 4, _ | 5, _ | 6, _ => decide
def sx (a : Int) : Int := if 128 ≤ a then a - 256 else a
theorem sx_bnd {a : Int} (h : 0 ≤ a ∧ a ≤ 255) : -128 ≤ sx a ∧ sx a ≤ 127 := by unfold sx; split <;> omega
theorem sx_eq {a : Int} (h : 0 ≤ a ∧ a ≤ 255) : IntKind.wrap .i64 (IntKind.wrap .i8 a) = sx a := by
  have key : ∀ a : Fin 256, IntKind.wrap .i64 (IntKind.wrap .i8 (a.val : Int)) = sx (a.val : Int) := by decide +kernel
  have := key ⟨a.toNat, by omega⟩
  simpa [Int.toNat_of_nonneg h.1] using this
theorem val_cons {a : Int} (r : List Int) (h : 0 ≤ a ∧ a ≤ 255) : valD (a :: r) = foldB (sx a) r := by
  unfold valD sx foldB
  simp only [List.headD_cons, List.foldl_cons]
  congr 1
  split <;> omega
theorem fold_fit7 {a : Int} {r : List Int} (h : Kd.wf BY (a :: r)) (n : Nat) (hn : n ≤ 7) : -9223372036854775808 ≤ foldB (sx a) (r.take n) ∧ foldB (sx a) (r.take n) ≤ 9223372036854775807 := by
  have hb := sx_bnd (head_bnd h)
  have ht := tail_wf h
  have h1 := fold_bnd (r.take n) (sx a) (fun b hb => by
    have := ht.2 b (List.mem_of_mem_take hb)
    have h2 : InR .u8 b := this
    simpa [InR, IntKind.min, IntKind.max, IntKind.signed, IntKind.bits] using h2)
  have hlen : (r.take n).length ≤ 7 := by simp; omega
  have hp := pow256 _ hlen
  have hp0 : (0 : Int) < 256 ^ (r.take n).length := Int.pow_pos (by decide)
  generalize (256 : Int) ^ (r.take n).length = P at h1 hp hp0
  have h3 : -128 * P ≤ sx a * P := Int.mul_le_mul_of_nonneg_right hb.1 (by omega)
  have h4 : sx a * P ≤ 127 * P := Int.mul_le_mul_of_nonneg_right hb.2 (by omega)
  have : (256 : Int) ^ 7 = 72057594037927936 := by decide
  omega
theorem fold_fit6 {a : Int} {r : List Int} (h : Kd.wf BY (a :: r)) (n : Nat) (hn : n ≤ 6) : -36028797018963968 ≤ foldB (sx a) (r.take n) ∧ foldB (sx a) (r.take n) < 36028797018963968 := by
  have hb := sx_bnd (head_bnd h)
  have ht := tail_wf h
  have h1 := fold_bnd (r.take n) (sx a) (fun b hb => by
    have := ht.2 b (List.mem_of_mem_take hb)
    have h2 : InR .u8 b := this
    simpa [InR, IntKind.min, IntKind.max, IntKind.signed, IntKind.bits] using h2)
  have hlen : (r.take n).length ≤ 6 := by simp; omega
  have hp := pow256' _ hlen
  have hp0 : (0 : Int) < 256 ^ (r.take n).length := Int.pow_pos (by decide)
  generalize (256 : Int) ^ (r.take n).length = P at h1 hp hp0
  have h3 : -128 * P ≤ sx a * P := Int.mul_le_mul_of_nonneg_right hb.1 (by omega)
  have h4 : sx a * P ≤ 127 * P := Int.mul_le_mul_of_nonneg_right hb.2 (by omega)
  have : (256 : Int) ^ 6 = 281474976710656 := by decide
  omega
theorem or_byte (v b : Int) (hb : 0 ≤ b ∧ b ≤ 255) (hv : -36028797018963968 ≤ v ∧ v < 36028797018963968) :
    IntKind.wrap .i64 ↑(BitVec.ofInt 64 (IntKind.wrap .i64 (v * 2 ^ 8)) ||| BitVec.ofInt 64 (IntKind.wrap .i64 b)).toNat = v * 256 + b := by
  have w1 : IntKind.wrap .i64 (v * 2 ^ 8) = v * 256 := by rw [IntKind.wrap_i64]; omega
  have w2 : IntKind.wrap .i64 b = b := by rw [IntKind.wrap_i64]; omega
  rw [w1, w2, BitVec.toNat_or, BitVec.toNat_ofInt, BitVec.toNat_ofInt]
  have e1 : (v * 256 % ((2 ^ 64 : Nat) : Int)).toNat = (v % 72057594037927936).toNat <<< 8 := by rw [Nat.shiftLeft_eq]; omega
  have e2 : (b % ((2 ^ 64 : Nat) : Int)).toNat = b.toNat := by omega
  rw [e1, e2, ← Nat.shiftLeft_add_eq_or_of_lt (by omega), Nat.shiftLeft_eq, IntKind.wrap_i64]
  omega
theorem bits_spec {l bits : List Int} {un code : Int} (h : (bits, un, code) = ToBitsD l) : (code = 0 ∧ FitsD bits un = true ∧ l = un :: bits) ∨ (bits = [] ∧ un = 0 ∧ code = 20) := by
  cases l with
  | nil => cases h; exact .inr ⟨rfl, rfl, rfl⟩
  | cons a r =>
    rw [ToBitsD] at h
    split at h
    · rename_i hf; cases h; exact .inl ⟨rfl, hf, rfl⟩
    · cases h; exact .inr ⟨rfl, rfl, rfl⟩
theorem fits_rng {l : List Int} {n : Int} (h : FitsD l n = true) : 0 ≤ n ∧ n ≤ 7 ∧ (l = [] → n = 0) ∧ (l ≠ [] → l.getLastD 0 % 2 ^ n.toNat = 0) := by
  unfold FitsD at h
  split at h
  · cases h
  · rename_i hn
    refine ⟨by omega, by omega, fun e => ?_, fun e => ?_⟩
    · rw [if_pos e] at h; exact of_decide_eq_true h
    · rw [if_neg e] at h; exact of_decide_eq_true h
theorem and_bit (b : Int) (n : Nat) (h0 : 0 ≤ b ∧ b ≤ 255) (hn : n ≤ 7) : IntKind.wrap .u8 ↑(BitVec.ofInt 8 b &&& BitVec.ofInt 8 (IntKind.wrap .u8 (1 * 2 ^ min n 8))).toNat = 0 ↔ (b / 2 ^ n) % 2 = 0 := by
  have key : ∀ b : Fin 256, ∀ n : Fin 8, IntKind.wrap .u8 ↑(BitVec.ofInt 8 (b.val : Int) &&& BitVec.ofInt 8 (IntKind.wrap .u8 (1 * 2 ^ min n.val 8))).toNat = 0 ↔ ((b.val : Int) / 2 ^ n.val) % 2 = 0 := by decide +kernel
  have := key ⟨b.toNat, by omega⟩ ⟨n, by omega⟩
  simpa [Int.toNat_of_nonneg h0.1] using this
theorem or16 (v b : Int) (hb : 0 ≤ b ∧ b ≤ 255) (hv : 0 ≤ v ∧ v ≤ 255) : IntKind.wrap .u16 ↑(BitVec.ofInt 16 (v * 256) ||| BitVec.ofInt 16 b).toNat = v * 256 + b := by
  rw [BitVec.toNat_or, BitVec.toNat_ofInt, BitVec.toNat_ofInt]
  have e1 : (v * 256 % ((2 ^ 16 : Nat) : Int)).toNat = v.toNat <<< 8 := by rw [Nat.shiftLeft_eq]; omega
  have e2 : (b % ((2 ^ 16 : Nat) : Int)).toNat = b.toNat := by omega
  rw [e1, e2, ← Nat.shiftLeft_add_eq_or_of_lt (by omega), Nat.shiftLeft_eq]
  simp [IntKind.wrap, IntKind.signed, IntKind.bits]
  omega
theorem hi_eq (a : Int) (h : 0 ≤ a ∧ a ≤ 255) : IntKind.wrap .u16 ↑(BitVec.ofInt 16 0 ||| BitVec.ofInt 16 (IntKind.wrap .u16 (IntKind.wrap .u16 a * 2 ^ min (IntKind.wrap .i64 (8 - IntKind.wrap .i64 (8 * 0))).toNat 16))).toNat = a * 256 := by
  have key : ∀ a : Fin 256, IntKind.wrap .u16 ↑(BitVec.ofInt 16 0 ||| BitVec.ofInt 16 (IntKind.wrap .u16 (IntKind.wrap .u16 (a.val : Int) * 2 ^ min (IntKind.wrap .i64 (8 - IntKind.wrap .i64 (8 * 0))).toNat 16))).toNat = (a.val : Int) * 256 := by decide +kernel
  have := key ⟨a.toNat, by omega⟩
  simpa [Int.toNat_of_nonneg h.1] using this
theorem lo_eq (a : Int) (h : 0 ≤ a ∧ a ≤ 255) : IntKind.wrap .u16 (IntKind.wrap .u16 a * 2 ^ min (IntKind.wrap .i64 (8 - IntKind.wrap .i64 (8 * 1))).toNat 16) = a := by
  have key : ∀ a : Fin 256, IntKind.wrap .u16 (IntKind.wrap .u16 (a.val : Int) * 2 ^ min (IntKind.wrap .i64 (8 - IntKind.wrap .i64 (8 * 1))).toNat 16) = (a.val : Int) := by decide +kernel
  have := key ⟨a.toNat, by omega⟩
  simpa [Int.toNat_of_nonneg h.1] using this
/-- The bits so far. -/
def acc (l : List Int) : Nat → Nat
  | 0 => 0
  | i + 1 => acc l i + if (l.getD (i / 8) 0).toNat / 2 ^ (7 - i % 8) % 2 = 1 then 2 ^ i else 0
theorem acc_lt (l : List Int) : ∀ i, acc l i < 2 ^ i
  | 0 => by simp [acc]
  | i + 1 => by
    have := acc_lt l i
    rw [acc, Nat.pow_succ]
    split <;> omega
theorem acc_one (a b : Int) (r : List Int) : ∀ i, i ≤ 8 → acc (a :: b :: r) i = acc [a] i
  | 0, _ => rfl
  | i + 1, h => by
    rw [acc, acc, acc_one a b r i (by omega), show i / 8 = 0 by omega]
    rfl
theorem acc_two (a b : Int) : ∀ j, j ≤ 8 → acc [a, b] (8 + j) = acc [a] 8 + 256 * acc [b] j
  | 0, _ => acc_one a b [] 8 (Nat.le_refl _)
  | j + 1, h => by
    have e1 : acc [a, b] (8 + j + 1) = acc [a, b] (8 + j) + if (([a, b] : List Int).getD ((8 + j) / 8) 0).toNat / 2 ^ (7 - (8 + j) % 8) % 2 = 1 then 2 ^ (8 + j) else 0 := rfl
    have e2 : acc [b] (j + 1) = acc [b] j + if (([b] : List Int).getD (j / 8) 0).toNat / 2 ^ (7 - j % 8) % 2 = 1 then 2 ^ j else 0 := rfl
    rw [← Nat.add_assoc, e1, e2, acc_two a b j (by omega), show (8 + j) / 8 = 1 by omega, show j / 8 = 0 by omega, show (8 + j) % 8 = j % 8 by omega]
    simp only [List.getD_cons_succ, List.getD_cons_zero]
    rw [Nat.pow_add]
    split <;> omega
theorem acc_rev (a : Int) (u : Nat) (h : 0 ≤ a ∧ a ≤ 255) (hu : u ≤ 7) (hz : a % 2 ^ u = 0) : acc [a] (8 - u) = prev a.toNat 8 := by
  have key : ∀ a : Fin 256, ∀ u : Fin 8, (a.val : Int) % 2 ^ u.val = 0 → acc [(a.val : Int)] (8 - u.val) = prev a.val 8 := by decide +kernel
  have := key ⟨a.toNat, by omega⟩ ⟨u, by omega⟩
  simp only [Int.toNat_of_nonneg h.1] at this
  exact this hz
theorem acc_full (a : Int) (h : 0 ≤ a ∧ a ≤ 255) : acc [a] 8 = prev a.toNat 8 := acc_rev a 0 h (by decide) (by simp)
theorem or_pow (v i : Nat) (hv : v < 2 ^ i) (hi : i < 16) : IntKind.wrap .u16 ↑(BitVec.ofInt 16 (v : Int) ||| BitVec.ofInt 16 (IntKind.wrap .u16 (1 * 2 ^ min i 16))).toNat = ((v + 2 ^ i : Nat) : Int) := by
  have hp : 2 ^ i < 65536 := by
    have := Nat.pow_lt_pow_right (a := 2) (by decide) hi
    omega
  have hp2 : v + 2 ^ i < 65536 := by
    have : 2 ^ (i + 1) ≤ 2 ^ 16 := Nat.pow_le_pow_right (by decide) hi
    rw [Nat.pow_succ] at this
    omega
  have w : IntKind.wrap .u16 (1 * 2 ^ min i 16) = ((2 ^ i : Nat) : Int) := by
    rw [Nat.min_eq_left (by omega), Int.one_mul]
    have e : (2 : Int) ^ i = ((2 ^ i : Nat) : Int) := by simp
    rw [e]
    generalize 2 ^ i = p at hp
    simp [IntKind.wrap, IntKind.signed, IntKind.bits]
    omega
  rw [w, BitVec.toNat_or, BitVec.toNat_ofInt, BitVec.toNat_ofInt]
  have e1 : ((v : Int) % ((2 ^ 16 : Nat) : Int)).toNat = v := by omega
  have e2 : (((2 ^ i : Nat) : Int) % ((2 ^ 16 : Nat) : Int)).toNat = 1 <<< i := by
    rw [Nat.shiftLeft_eq, Nat.one_mul]
    generalize 2 ^ i = p at hp
    omega
  rw [e1, e2, Nat.or_comm, ← Nat.shiftLeft_add_eq_or_of_lt hv, Nat.shiftLeft_eq, Nat.one_mul]
  generalize 2 ^ i = p at hp hp2
  simp [IntKind.wrap, IntKind.signed, IntKind.bits]
  omega
def t31 : Prop :=
  ∀ (x : List Int × Unit),
    Kd.wf (Kd.sl (Kd.int IntKind.u8)) x.fst ∧ True →
      True →
        (decide ((↑(List.length x.fst) : Int) < (2 : Int)) = true → decide ((↑(List.length x.fst) : Int) = (1 : Int)) = ShortD x.fst) ∧
          (decide ((↑(List.length x.fst) : Int) < (2 : Int)) = false →
            ((0 : Int) ≤ (0 : Int) ∧ (0 : Int) < (↑(List.length x.fst) : Int)) ∧
              (decide (List.getD x.fst (0 : Nat) (Kd.dft (Kd.int IntKind.u8)) = (0 : Int)) = true → True) ∧
                (decide (List.getD x.fst (0 : Nat) (Kd.dft (Kd.int IntKind.u8)) = (0 : Int)) = true →
                    (decide (List.getD x.fst (0 : Nat) (Kd.dft (Kd.int IntKind.u8)) = (0 : Int)) == true) = true ∧ ((0 : Int) ≤ (1 : Int) ∧ (1 : Int) < (↑(List.length x.fst) : Int)) ∧ True) ∧
                  (decide (List.getD x.fst (0 : Nat) (Kd.dft (Kd.int IntKind.u8)) = (0 : Int)) = true →
                      (decide (List.getD x.fst (0 : Nat) (Kd.dft (Kd.int IntKind.u8)) = (0 : Int)) == true) = true ∧ True) ∧
                    (decide (List.getD x.fst (0 : Nat) (Kd.dft (Kd.int IntKind.u8)) = (0 : Int)) = true →
                        (decide (List.getD x.fst (0 : Nat) (Kd.dft (Kd.int IntKind.u8)) = (0 : Int)) == true) = true ∧ True) ∧
                      (decide (List.getD x.fst (0 : Nat) (Kd.dft (Kd.int IntKind.u8)) = (0 : Int)) = true →
                          (decide (List.getD x.fst (0 : Nat) (Kd.dft (Kd.int IntKind.u8)) = (0 : Int)) == true) = true) ∧
                        ((bif decide (List.getD x.fst (0 : Nat) (Kd.dft (Kd.int IntKind.u8)) = (0 : Int)) then decide (List.getD x.fst (1 : Nat) (Kd.dft (Kd.int IntKind.u8)) < (128 : Int)) else false) =
                              false →
                            True) ∧
                          ((bif decide (List.getD x.fst (0 : Nat) (Kd.dft (Kd.int IntKind.u8)) = (0 : Int)) then decide (List.getD x.fst (1 : Nat) (Kd.dft (Kd.int IntKind.u8)) < (128 : Int))
                                else false) =
                                false →
                              ((bif decide (List.getD x.fst (0 : Nat) (Kd.dft (Kd.int IntKind.u8)) = (0 : Int)) then decide (List.getD x.fst (1 : Nat) (Kd.dft (Kd.int IntKind.u8)) < (128 : Int))
                                    else false) ==
                                    false) =
                                  true ∧
                                ((0 : Int) ≤ (0 : Int) ∧ (0 : Int) < (↑(List.length x.fst) : Int)) ∧ True) ∧
                            ((bif decide (List.getD x.fst (0 : Nat) (Kd.dft (Kd.int IntKind.u8)) = (0 : Int)) then decide (List.getD x.fst (1 : Nat) (Kd.dft (Kd.int IntKind.u8)) < (128 : Int))
                                  else false) =
                                  false →
                                ((bif decide (List.getD x.fst (0 : Nat) (Kd.dft (Kd.int IntKind.u8)) = (0 : Int)) then decide (List.getD x.fst (1 : Nat) (Kd.dft (Kd.int IntKind.u8)) < (128 : Int))
                                      else false) ==
                                      false) =
                                    true ∧
                                  True) ∧
                              ((bif decide (List.getD x.fst (0 : Nat) (Kd.dft (Kd.int IntKind.u8)) = (0 : Int)) then decide (List.getD x.fst (1 : Nat) (Kd.dft (Kd.int IntKind.u8)) < (128 : Int))
                                    else false) =
                                    false →
                                  ((bif decide (List.getD x.fst (0 : Nat) (Kd.dft (Kd.int IntKind.u8)) = (0 : Int)) then decide (List.getD x.fst (1 : Nat) (Kd.dft (Kd.int IntKind.u8)) < (128 : Int))
                                        else false) ==
                                        false) =
                                      true ∧
                                    True) ∧
                                ((bif decide (List.getD x.fst (0 : Nat) (Kd.dft (Kd.int IntKind.u8)) = (0 : Int)) then decide (List.getD x.fst (1 : Nat) (Kd.dft (Kd.int IntKind.u8)) < (128 : Int))
                                      else false) =
                                      false →
                                    True) ∧
                                  (((bif decide (List.getD x.fst (0 : Nat) (Kd.dft (Kd.int IntKind.u8)) = (0 : Int)) then decide (List.getD x.fst (1 : Nat) (Kd.dft (Kd.int IntKind.u8)) < (128 : Int))
                                            else false) ==
                                            false &&
                                          (bif decide (List.getD x.fst (0 : Nat) (Kd.dft (Kd.int IntKind.u8)) = (0 : Int)) then
                                              decide (List.getD x.fst (1 : Nat) (Kd.dft (Kd.int IntKind.u8)) < (128 : Int))
                                            else false) ==
                                            false) =
                                        true →
                                      decide (List.getD x.fst (0 : Nat) (Kd.dft (Kd.int IntKind.u8)) = (255 : Int)) = true → True) ∧
                                    (((bif decide (List.getD x.fst (0 : Nat) (Kd.dft (Kd.int IntKind.u8)) = (0 : Int)) then decide (List.getD x.fst (1 : Nat) (Kd.dft (Kd.int IntKind.u8)) < (128 : Int))
                                              else false) ==
                                              false &&
                                            (bif decide (List.getD x.fst (0 : Nat) (Kd.dft (Kd.int IntKind.u8)) = (0 : Int)) then
                                                decide (List.getD x.fst (1 : Nat) (Kd.dft (Kd.int IntKind.u8)) < (128 : Int))
                                              else false) ==
                                              false) =
                                          true →
                                        decide (List.getD x.fst (0 : Nat) (Kd.dft (Kd.int IntKind.u8)) = (255 : Int)) = true →
                                          ((bif decide (List.getD x.fst (0 : Nat) (Kd.dft (Kd.int IntKind.u8)) = (0 : Int)) then
                                                      decide (List.getD x.fst (1 : Nat) (Kd.dft (Kd.int IntKind.u8)) < (128 : Int))
                                                    else false) ==
                                                    false &&
                                                  (bif decide (List.getD x.fst (0 : Nat) (Kd.dft (Kd.int IntKind.u8)) = (0 : Int)) then
                                                      decide (List.getD x.fst (1 : Nat) (Kd.dft (Kd.int IntKind.u8)) < (128 : Int))
                                                    else false) ==
                                                    false &&
                                                decide (List.getD x.fst (0 : Nat) (Kd.dft (Kd.int IntKind.u8)) = (255 : Int)) == true) =
                                              true ∧
                                            ((0 : Int) ≤ (1 : Int) ∧ (1 : Int) < (↑(List.length x.fst) : Int)) ∧ True) ∧
                                      (((bif decide (List.getD x.fst (0 : Nat) (Kd.dft (Kd.int IntKind.u8)) = (0 : Int)) then
                                                  decide (List.getD x.fst (1 : Nat) (Kd.dft (Kd.int IntKind.u8)) < (128 : Int))
                                                else false) ==
                                                false &&
                                              (bif decide (List.getD x.fst (0 : Nat) (Kd.dft (Kd.int IntKind.u8)) = (0 : Int)) then
                                                  decide (List.getD x.fst (1 : Nat) (Kd.dft (Kd.int IntKind.u8)) < (128 : Int))
                                                else false) ==
                                                false) =
                                            true →
                                          decide (List.getD x.fst (0 : Nat) (Kd.dft (Kd.int IntKind.u8)) = (255 : Int)) = true →
                                            ((bif decide (List.getD x.fst (0 : Nat) (Kd.dft (Kd.int IntKind.u8)) = (0 : Int)) then
                                                        decide (List.getD x.fst (1 : Nat) (Kd.dft (Kd.int IntKind.u8)) < (128 : Int))
                                                      else false) ==
                                                      false &&
                                                    (bif decide (List.getD x.fst (0 : Nat) (Kd.dft (Kd.int IntKind.u8)) = (0 : Int)) then
                                                        decide (List.getD x.fst (1 : Nat) (Kd.dft (Kd.int IntKind.u8)) < (128 : Int))
                                                      else false) ==
                                                      false &&
                                                  decide (List.getD x.fst (0 : Nat) (Kd.dft (Kd.int IntKind.u8)) = (255 : Int)) == true) =
                                                true ∧
                                              True) ∧
                                        (((bif decide (List.getD x.fst (0 : Nat) (Kd.dft (Kd.int IntKind.u8)) = (0 : Int)) then
                                                    decide (List.getD x.fst (1 : Nat) (Kd.dft (Kd.int IntKind.u8)) < (128 : Int))
                                                  else false) ==
                                                  false &&
                                                (bif decide (List.getD x.fst (0 : Nat) (Kd.dft (Kd.int IntKind.u8)) = (0 : Int)) then
                                                    decide (List.getD x.fst (1 : Nat) (Kd.dft (Kd.int IntKind.u8)) < (128 : Int))
                                                  else false) ==
                                                  false) =
                                              true →
                                            decide (List.getD x.fst (0 : Nat) (Kd.dft (Kd.int IntKind.u8)) = (255 : Int)) = true →
                                              ((bif decide (List.getD x.fst (0 : Nat) (Kd.dft (Kd.int IntKind.u8)) = (0 : Int)) then
                                                          decide (List.getD x.fst (1 : Nat) (Kd.dft (Kd.int IntKind.u8)) < (128 : Int))
                                                        else false) ==
                                                        false &&
                                                      (bif decide (List.getD x.fst (0 : Nat) (Kd.dft (Kd.int IntKind.u8)) = (0 : Int)) then
                                                          decide (List.getD x.fst (1 : Nat) (Kd.dft (Kd.int IntKind.u8)) < (128 : Int))
                                                        else false) ==
                                                        false &&
                                                    decide (List.getD x.fst (0 : Nat) (Kd.dft (Kd.int IntKind.u8)) = (255 : Int)) == true) =
                                                  true ∧
                                                True) ∧
                                          ((bif decide (List.getD x.fst (0 : Nat) (Kd.dft (Kd.int IntKind.u8)) = (0 : Int)) then
                                                  decide (List.getD x.fst (1 : Nat) (Kd.dft (Kd.int IntKind.u8)) < (128 : Int))
                                                else false) =
                                                false →
                                              ((bif decide (List.getD x.fst (0 : Nat) (Kd.dft (Kd.int IntKind.u8)) = (0 : Int)) then
                                                        decide (List.getD x.fst (1 : Nat) (Kd.dft (Kd.int IntKind.u8)) < (128 : Int))
                                                      else false) ==
                                                      false &&
                                                    (bif decide (List.getD x.fst (0 : Nat) (Kd.dft (Kd.int IntKind.u8)) = (0 : Int)) then
                                                        decide (List.getD x.fst (1 : Nat) (Kd.dft (Kd.int IntKind.u8)) < (128 : Int))
                                                      else false) ==
                                                      false) =
                                                  true ∧
                                                (decide (List.getD x.fst (0 : Nat) (Kd.dft (Kd.int IntKind.u8)) = (255 : Int)) = true →
                                                    ((bif decide (List.getD x.fst (0 : Nat) (Kd.dft (Kd.int IntKind.u8)) = (0 : Int)) then
                                                              decide (List.getD x.fst (1 : Nat) (Kd.dft (Kd.int IntKind.u8)) < (128 : Int))
                                                            else false) ==
                                                            false &&
                                                          (bif decide (List.getD x.fst (0 : Nat) (Kd.dft (Kd.int IntKind.u8)) = (0 : Int)) then
                                                              decide (List.getD x.fst (1 : Nat) (Kd.dft (Kd.int IntKind.u8)) < (128 : Int))
                                                            else false) ==
                                                            false &&
                                                        decide (List.getD x.fst (0 : Nat) (Kd.dft (Kd.int IntKind.u8)) = (255 : Int)) == true) =
                                                      true) ∧
                                                  True) ∧
                                            ((bif decide (List.getD x.fst (0 : Nat) (Kd.dft (Kd.int IntKind.u8)) = (0 : Int)) then
                                                    decide (List.getD x.fst (1 : Nat) (Kd.dft (Kd.int IntKind.u8)) < (128 : Int))
                                                  else false) =
                                                  false →
                                                ((bif decide (List.getD x.fst (0 : Nat) (Kd.dft (Kd.int IntKind.u8)) = (0 : Int)) then
                                                      decide (List.getD x.fst (1 : Nat) (Kd.dft (Kd.int IntKind.u8)) < (128 : Int))
                                                    else false) ==
                                                    false) =
                                                  true) ∧
                                              (!bif
                                                      bif decide (List.getD x.fst (0 : Nat) (Kd.dft (Kd.int IntKind.u8)) = (0 : Int)) then
                                                        decide (List.getD x.fst (1 : Nat) (Kd.dft (Kd.int IntKind.u8)) < (128 : Int))
                                                      else false then
                                                    true
                                                  else
                                                    bif decide (List.getD x.fst (0 : Nat) (Kd.dft (Kd.int IntKind.u8)) = (255 : Int)) then
                                                      decide ((128 : Int) ≤ List.getD x.fst (1 : Nat) (Kd.dft (Kd.int IntKind.u8)))
                                                    else false) =
                                                ShortD x.fst)
theorem e31 : t31 = Con.vc c31 GL (mkEnv ty [] [] [] [0, 2, 5]) {} Tryd.f31.ntmps Tryd.f31.results.toList (bodyOf Tryd.f31) := by kernel_rfl
theorem k31 : t31 := by
  unfold t31
  rintro ⟨l, _⟩ hx hp
  try dsimp +instances only [dft_int, dft_sl, dft_str]
  simp only [true_and, and_true, eq_self_iff_true, implies_true, reduceCtorEq, false_implies, true_implies, decide_eq_true_eq, decide_eq_false_iff_not, beq_self_eq_true, Bool.not_eq_true', ne_eq, Decidable.not_not, List.nil_append, List.length_singleton, List.length_cons, List.length_nil, Nat.zero_add, Nat.add_zero, Nat.mul_one, and_self, beq_iff_eq, Bool.not_true, Bool.not_false, Bool.not_eq_false', Bool.cond_false_right, Bool.and_eq_true, imp_self, Bool.not_eq_true, Bool.cond_true_left, Bool.or_eq_true]
  rcases l with _ | ⟨a, _ | ⟨b, r⟩⟩
  · exact ⟨fun _ => rfl, fun h => absurd (by simp) h⟩
  · exact ⟨fun _ => rfl, fun h => absurd (by simp) h⟩
  · simp only [List.getD_cons_zero, List.getD_cons_succ]
    have hlen : (2 : Int) ≤ ((a :: b :: r).length : Int) := by simp; omega
    exact ⟨fun h => by omega, fun _ => ⟨by omega, fun h => ⟨h, by omega, by omega⟩, fun h => ⟨h, by omega, by omega⟩, fun h h2 => ⟨⟨h, h2⟩, by omega, by omega⟩, fun h h2 => ⟨h, h2⟩, fun h h2 => ⟨h, h2⟩, fun h => ⟨h, fun h2 => ⟨h, h2⟩⟩, rfl⟩⟩
theorem h31 : c31.ok Tryd.prog GL 31 := con_ok (H := {}) (mkEnv_ok (gl := GL) (l := []) (q := []) (d := []) _ tyOk (by kernel_rfl) trivial trivial trivial) (by kernel_rfl) (by kernel_rfl) (Eq.mp e31 k31)

def t32 : Prop :=
  ∀ (x : List Int × Unit),
    Kd.wf (Kd.sl (Kd.int IntKind.u8)) x.fst ∧ True →
      True →
        (decide ((↑(List.length x.fst) : Int) = (0 : Int)) = true → false = ShortD x.fst) ∧
          (decide ((↑(List.length x.fst) : Int) = (0 : Int)) = false →
            (decide ((↑(List.length x.fst) : Int) = (1 : Int)) = true → true = ShortD x.fst) ∧
              (decide ((↑(List.length x.fst) : Int) = (1 : Int)) = false →
                ((0 : Int) ≤ (0 : Int) ∧ (0 : Int) < (↑(List.length x.fst) : Int)) ∧
                  ((0 : Int) ≤ (1 : Int) ∧ (1 : Int) < (↑(List.length x.fst) : Int)) ∧
                    (128 : Int) ≠ (0 : Int) ∧
                      (decide
                              (IntKind.wrap IntKind.i64
                                  (IntKind.wrap IntKind.i64 (IntKind.wrap IntKind.i64 (List.getD x.fst (0 : Nat) (Kd.dft (Kd.int IntKind.u8))) * (2 : Int)) +
                                    IntKind.wrap IntKind.i64 (Int.tdiv (IntKind.wrap IntKind.i64 (List.getD x.fst (1 : Nat) (Kd.dft (Kd.int IntKind.u8)))) (128 : Int))) ≠
                                (0 : Int)) =
                            true →
                          True) ∧
                        (decide
                                (IntKind.wrap IntKind.i64
                                    (IntKind.wrap IntKind.i64 (IntKind.wrap IntKind.i64 (List.getD x.fst (0 : Nat) (Kd.dft (Kd.int IntKind.u8))) * (2 : Int)) +
                                      IntKind.wrap IntKind.i64 (Int.tdiv (IntKind.wrap IntKind.i64 (List.getD x.fst (1 : Nat) (Kd.dft (Kd.int IntKind.u8)))) (128 : Int))) ≠
                                  (0 : Int)) =
                              true →
                            (decide
                                    (IntKind.wrap IntKind.i64
                                        (IntKind.wrap IntKind.i64 (IntKind.wrap IntKind.i64 (List.getD x.fst (0 : Nat) (Kd.dft (Kd.int IntKind.u8))) * (2 : Int)) +
                                          IntKind.wrap IntKind.i64 (Int.tdiv (IntKind.wrap IntKind.i64 (List.getD x.fst (1 : Nat) (Kd.dft (Kd.int IntKind.u8)))) (128 : Int))) ≠
                                      (0 : Int)) ==
                                  true) =
                                true ∧
                              True) ∧
                          (decide
                                  (IntKind.wrap IntKind.i64
                                      (IntKind.wrap IntKind.i64 (IntKind.wrap IntKind.i64 (List.getD x.fst (0 : Nat) (Kd.dft (Kd.int IntKind.u8))) * (2 : Int)) +
                                        IntKind.wrap IntKind.i64 (Int.tdiv (IntKind.wrap IntKind.i64 (List.getD x.fst (1 : Nat) (Kd.dft (Kd.int IntKind.u8)))) (128 : Int))) ≠
                                    (0 : Int)) =
                                true →
                              (decide
                                    (IntKind.wrap IntKind.i64
                                        (IntKind.wrap IntKind.i64 (IntKind.wrap IntKind.i64 (List.getD x.fst (0 : Nat) (Kd.dft (Kd.int IntKind.u8))) * (2 : Int)) +
                                          IntKind.wrap IntKind.i64 (Int.tdiv (IntKind.wrap IntKind.i64 (List.getD x.fst (1 : Nat) (Kd.dft (Kd.int IntKind.u8)))) (128 : Int))) ≠
                                      (0 : Int)) ==
                                  true) =
                                true) ∧
                            (bif
                                  decide
                                    (IntKind.wrap IntKind.i64
                                        (IntKind.wrap IntKind.i64 (IntKind.wrap IntKind.i64 (List.getD x.fst (0 : Nat) (Kd.dft (Kd.int IntKind.u8))) * (2 : Int)) +
                                          IntKind.wrap IntKind.i64 (Int.tdiv (IntKind.wrap IntKind.i64 (List.getD x.fst (1 : Nat) (Kd.dft (Kd.int IntKind.u8)))) (128 : Int))) ≠
                                      (0 : Int)) then
                                decide
                                  (IntKind.wrap IntKind.i64
                                      (IntKind.wrap IntKind.i64 (IntKind.wrap IntKind.i64 (List.getD x.fst (0 : Nat) (Kd.dft (Kd.int IntKind.u8))) * (2 : Int)) +
                                        IntKind.wrap IntKind.i64 (Int.tdiv (IntKind.wrap IntKind.i64 (List.getD x.fst (1 : Nat) (Kd.dft (Kd.int IntKind.u8)))) (128 : Int))) ≠
                                    (511 : Int))
                              else false) =
                              ShortD x.fst))
theorem e32 : t32 = Con.vc c32 GL (mkEnv ty [] [] [] [0, 2, 3, 6, 9]) {} Tryd.f32.ntmps Tryd.f32.results.toList (bodyOf Tryd.f32) := by kernel_rfl
theorem k32 : t32 := by
  unfold t32
  rintro ⟨l, _⟩ hx hp
  try dsimp +instances only [dft_int, dft_sl, dft_str]
  simp only [true_and, and_true, eq_self_iff_true, implies_true, reduceCtorEq, false_implies, true_implies, decide_eq_true_eq, decide_eq_false_iff_not, beq_self_eq_true, Bool.not_eq_true', ne_eq, Decidable.not_not, List.nil_append, List.length_singleton, List.length_cons, List.length_nil, Nat.zero_add, Nat.add_zero, Nat.mul_one, and_self, beq_iff_eq, Bool.not_true, Bool.not_false, Bool.not_eq_false', Bool.cond_false_right, Bool.and_eq_true, imp_self, Bool.not_eq_true, Bool.cond_true_left, Bool.or_eq_true]
  rcases l with _ | ⟨a, _ | ⟨b, r⟩⟩
  · exact ⟨fun _ => rfl, fun h => absurd rfl h⟩
  · exact ⟨fun h => by simp at h, fun _ => ⟨fun _ => rfl, fun h => absurd rfl h⟩⟩
  · have ha := get_bnd hx.1 0
    have hb := get_bnd hx.1 1
    have hlen : (2 : Int) ≤ ((a :: b :: r).length : Int) := by simp; omega
    refine ⟨fun h => by omega, fun _ => ⟨fun h => by omega, fun _ => ⟨by omega, by omega, by decide, ?_⟩⟩⟩
    have e : IntKind.wrap .i64 (IntKind.wrap .i64 (IntKind.wrap .i64 ((a :: b :: r).getD 0 0) * 2) + IntKind.wrap .i64 ((IntKind.wrap .i64 ((a :: b :: r).getD 1 0)).tdiv 128)) = 2 * a + b / 128 := by
      simp only [List.getD_cons_zero, List.getD_cons_succ] at ha hb ⊢
      rw [wrapk a (by omega) (by omega), wrapk b (by omega) (by omega), Int.tdiv_eq_ediv_of_nonneg hb.1, wrapk (a * 2) (by omega) (by omega), wrapk (b / 128) (by omega) (by omega), wrapk _ (by omega) (by omega)]
      omega
    simp only [List.getD_cons_zero, List.getD_cons_succ] at ha hb
    rw [e, Bool.eq_iff_iff, Bool.and_eq_true, decide_eq_true_eq, decide_eq_true_eq]
    simp only [ShortD, Bool.not_eq_true', Bool.or_eq_false_iff, Bool.and_eq_false_iff, decide_eq_false_iff_not]
    omega
theorem h32 : c32.ok Tryd.prog GL 32 := con_ok (H := {}) (mkEnv_ok (gl := GL) (l := []) (q := []) (d := []) _ tyOk (by kernel_rfl) trivial trivial trivial) (by kernel_rfl) (by kernel_rfl) (Eq.mp e32 k32)

def t13 : Prop :=
  ∀ (x : List Int × Unit),
    Kd.wf (Kd.sl (Kd.int IntKind.u8)) x.fst ∧ True →
      True →
        True ∧
          (∀ (y : Bool × Unit),
              Kd.wf Kd.bool y.fst ∧ True →
                y.fst = ShortD x.fst →
                  ((!y.fst) = true → ((0 : Int), (20 : Int)) = ToIntD x.fst) ∧
                    ((!y.fst) = false →
                      (decide ((8 : Int) < (↑(List.length x.fst) : Int)) = true → ((0 : Int), (21 : Int)) = ToIntD x.fst) ∧
                        (decide ((8 : Int) < (↑(List.length x.fst) : Int)) = false →
                          ((0 : Int) ≤ (0 : Int) ∧ (0 : Int) < (↑(List.length x.fst) : Int)) ∧
                            ((0 : Int) ≤ (1 : Int) ∧ (1 : Int) ≤ (↑(List.length x.fst) : Int)) ∧
                              ∃ (I : Int × Int × Unit → Unit → Prop),
                                ∃ (μ : Int × Int × Unit → Unit → Nat),
                                  ((↑(List.length (List.drop (1 : Nat) x.fst)) : Int) = (↑(List.length (List.drop (1 : Nat) x.fst)) : Int) ∧
                                      List.drop (1 : Nat) x.fst = List.drop (1 : Nat) x.fst ∧
                                        Value.bool false = Value.bool false ∧
                                          Value.bool false = Value.bool false ∧
                                            (0 : Int) = (0 : Int) ∧
                                              (0 : Int) = (0 : Int) ∧
                                                x.fst = x.fst ∧ I ((0 : Int), IntKind.wrap IntKind.i64 (IntKind.wrap IntKind.i8 (List.getD x.fst (0 : Nat) (Kd.dft (Kd.int IntKind.u8)))), ()) ()) ∧
                                    ∀ (y : Int × Int × Unit) (z : Unit),
                                      Kd.wf (Kd.int IntKind.i64) y.fst ∧ Kd.wf (Kd.int IntKind.i64) y.snd.fst ∧ True →
                                        True →
                                          I y z →
                                            (decide (y.fst < (↑(List.length (List.drop (1 : Nat) x.fst)) : Int)) = true →
                                                ((0 : Int) ≤ y.fst ∧ y.fst < (↑(List.length (List.drop (1 : Nat) x.fst)) : Int)) ∧
                                                  (0 : Int) ≤ (8 : Int) ∧
                                                    (↑(List.length (List.drop (1 : Nat) x.fst)) : Int) = (↑(List.length (List.drop (1 : Nat) x.fst)) : Int) ∧
                                                      List.drop (1 : Nat) x.fst = List.drop (1 : Nat) x.fst ∧
                                                        Value.bool false = Value.bool false ∧
                                                          Value.bool false = Value.bool false ∧
                                                            (0 : Int) = (0 : Int) ∧
                                                              (0 : Int) = (0 : Int) ∧
                                                                x.fst = x.fst ∧
                                                                  I
                                                                      (IntKind.wrap IntKind.i64 (y.fst + (1 : Int)),
                                                                        IntKind.wrap IntKind.i64
                                                                          (↑(BitVec.toNat
                                                                                (BitVec.ofInt (64 : Nat) (IntKind.wrap IntKind.i64 (y.snd.fst * (2 : Int) ^ (8 : Nat))) |||
                                                                                  BitVec.ofInt (64 : Nat)
                                                                                    (IntKind.wrap IntKind.i64 (List.getD (List.drop (1 : Nat) x.fst) (Int.toNat y.fst) (Kd.dft (Kd.int IntKind.u8)))))) :
                                                                            Int),
                                                                        ())
                                                                      () ∧
                                                                    μ
                                                                        (IntKind.wrap IntKind.i64 (y.fst + (1 : Int)),
                                                                          IntKind.wrap IntKind.i64
                                                                            (↑(BitVec.toNat
                                                                                  (BitVec.ofInt (64 : Nat) (IntKind.wrap IntKind.i64 (y.snd.fst * (2 : Int) ^ (8 : Nat))) |||
                                                                                    BitVec.ofInt (64 : Nat)
                                                                                      (IntKind.wrap IntKind.i64
                                                                                        (List.getD (List.drop (1 : Nat) x.fst) (Int.toNat y.fst) (Kd.dft (Kd.int IntKind.u8)))))) :
                                                                              Int),
                                                                          ())
                                                                        () <
                                                                      μ y z) ∧
                                              (decide (y.fst < (↑(List.length (List.drop (1 : Nat) x.fst)) : Int)) = false → (y.snd.fst, (0 : Int)) = ToIntD x.fst)))) ∧
            True
theorem e13 : t13 = Con.vc c13 GL (mkEnv ty [(31, conSem c31)] [] [] [0, 2, 3, 4, 6, 7, 11, 21, 22, 23, 24]) {} Tryd.f13.ntmps Tryd.f13.results.toList (bodyOf Tryd.f13) := by kernel_rfl
theorem k13 : t13 := by
  unfold t13
  rintro ⟨l, _⟩ hx hp
  try dsimp +instances only [dft_int, dft_sl, dft_str]
  simp only [true_and, and_true, eq_self_iff_true, implies_true, reduceCtorEq, false_implies, true_implies, decide_eq_true_eq, decide_eq_false_iff_not, beq_self_eq_true, Bool.not_eq_true', ne_eq, Decidable.not_not, List.nil_append, List.length_singleton, List.length_cons, List.length_nil, Nat.zero_add, Nat.add_zero, Nat.mul_one, and_self, beq_iff_eq, Bool.not_true, Bool.not_false, Bool.not_eq_false', Bool.cond_false_right, Bool.and_eq_true, imp_self, Bool.not_eq_true, Bool.cond_true_left, Bool.or_eq_true]
  rintro ⟨s, _⟩ _ es
  simp only at es ⊢
  refine ⟨fun h => ?_, fun h => ⟨fun h8 => ?_, fun h8 => ?_⟩⟩
  · rw [ToIntD, if_pos (by rw [← es]; exact h)]
  · rw [ToIntD, if_neg (by rw [← es, h]; decide), if_pos (by omega)]
  · have hv : ToIntD l = (valD l, 0) := by rw [ToIntD, if_neg (by rw [← es, h]; decide), if_neg (by omega)]
    rw [hv]
    rcases l with _ | ⟨a, r⟩
    · rw [h] at es; cases es
    · have hb := head_bnd hx.1
      have hr : r.length ≤ 7 := by simp at h8; omega
      have hlen : (1 : Int) ≤ ((a :: r).length : Int) := by simp; omega
      simp only [List.getD_cons_zero, List.drop_succ_cons, List.drop_zero]
      rw [val_cons r hb, sx_eq hb]
      refine ⟨⟨by omega, by omega⟩, ⟨by omega, by omega⟩, fun y _ => 0 ≤ y.1 ∧ y.1 ≤ r.length ∧ y.2.1 = foldB (sx a) (r.take y.1.toNat), fun y _ => r.length - y.1.toNat, ⟨by simp, by simp, by simp [foldB]⟩, ?_⟩
      rintro ⟨i, v, _⟩ z hy ⟨h0, h1, h2⟩
      simp only at h0 h1 h2 ⊢
      refine ⟨fun hlt => ⟨⟨h0, hlt⟩, by decide, ?_⟩, fun hge => ?_⟩
      · have hw : IntKind.wrap .i64 (i + 1) = i + 1 := wrapk _ (by omega) (by omega)
        have hor := or_byte v (r.getD i.toNat 0) (get_bnd (tail_wf hx.1) _) (by rw [h2]; exact fold_fit6 hx.1 _ (by omega))
        rw [hw, hor]
        refine ⟨⟨by omega, by omega, ?_⟩, by omega⟩
        rw [show (i + 1).toNat = i.toNat + 1 by omega, take_snoc r _ (by omega), fold_snoc, h2]
      · rw [h2, List.take_of_length_le (by omega)]
theorem h13 : c13.ok Tryd.prog GL 13 := con_ok (H := {}) (mkEnv_ok (gl := GL) (l := [(31, conSem c31)]) (q := []) (d := []) _ tyOk (by kernel_rfl) ⟨h31.call, trivial⟩ trivial trivial) (by kernel_rfl) (by kernel_rfl) (Eq.mp e13 k13)

def t14 : Prop :=
  ∀ (x : List Int × Unit),
    Kd.wf (Kd.sl (Kd.int IntKind.u8)) x.fst ∧ True →
      True →
        True ∧
          (∀ (y : Bool × Unit),
              Kd.wf Kd.bool y.fst ∧ True →
                y.fst = ShortD x.fst →
                  ((!y.fst) = true → ((0 : Int), (20 : Int)) = ToIntD x.fst) ∧
                    ((!y.fst) = false →
                      (decide ((8 : Int) < (↑(List.length x.fst) : Int)) = true → ((0 : Int), (21 : Int)) = ToIntD x.fst) ∧
                        (decide ((8 : Int) < (↑(List.length x.fst) : Int)) = false →
                          ((0 : Int) ≤ (0 : Int) ∧ (0 : Int) < (↑(List.length x.fst) : Int)) ∧
                            (decide ((128 : Int) ≤ List.getD x.fst (0 : Nat) (Kd.dft (Kd.int IntKind.u8))) = true →
                                ∃ (I : Int × Int × Unit → Unit → Prop),
                                  ∃ (μ : Int × Int × Unit → Unit → Nat),
                                    (Value.bool true = Value.bool true ∧
                                        Value.bool false = Value.bool false ∧
                                          Value.bool false = Value.bool false ∧ (0 : Int) = (0 : Int) ∧ (0 : Int) = (0 : Int) ∧ x.fst = x.fst ∧ I ((0 : Int), (-1 : Int), ()) ()) ∧
                                      ∀ (y : Int × Int × Unit) (z : Unit),
                                        Kd.wf (Kd.int IntKind.i64) y.fst ∧ Kd.wf (Kd.int IntKind.i64) y.snd.fst ∧ True →
                                          True →
                                            I y z →
                                              (decide (y.fst < (↑(List.length x.fst) : Int)) = true →
                                                  ((0 : Int) ≤ y.fst ∧ y.fst < (↑(List.length x.fst) : Int)) ∧
                                                    Value.bool true = Value.bool true ∧
                                                      Value.bool false = Value.bool false ∧
                                                        Value.bool false = Value.bool false ∧
                                                          (0 : Int) = (0 : Int) ∧
                                                            (0 : Int) = (0 : Int) ∧
                                                              x.fst = x.fst ∧
                                                                I
                                                                    (IntKind.wrap IntKind.i64 (y.fst + (1 : Int)),
                                                                      IntKind.wrap IntKind.i64
                                                                        (IntKind.wrap IntKind.i64 (y.snd.fst * (256 : Int)) +
                                                                          IntKind.wrap IntKind.i64 (List.getD x.fst (Int.toNat y.fst) (Kd.dft (Kd.int IntKind.u8)))),
                                                                      ())
                                                                    () ∧
                                                                  μ
                                                                      (IntKind.wrap IntKind.i64 (y.fst + (1 : Int)),
                                                                        IntKind.wrap IntKind.i64
                                                                          (IntKind.wrap IntKind.i64 (y.snd.fst * (256 : Int)) +
                                                                            IntKind.wrap IntKind.i64 (List.getD x.fst (Int.toNat y.fst) (Kd.dft (Kd.int IntKind.u8)))),
                                                                        ())
                                                                      () <
                                                                    μ y z) ∧
                                                (decide (y.fst < (↑(List.length x.fst) : Int)) = false → (y.snd.fst, (0 : Int)) = ToIntD x.fst)) ∧
                              (decide ((128 : Int) ≤ List.getD x.fst (0 : Nat) (Kd.dft (Kd.int IntKind.u8))) = false →
                                ∃ (I : Int × Int × Unit → Unit → Prop),
                                  ∃ (μ : Int × Int × Unit → Unit → Nat),
                                    (Value.bool false = Value.bool false ∧
                                        Value.bool false = Value.bool false ∧
                                          Value.bool false = Value.bool false ∧ (0 : Int) = (0 : Int) ∧ (0 : Int) = (0 : Int) ∧ x.fst = x.fst ∧ I ((0 : Int), (0 : Int), ()) ()) ∧
                                      ∀ (y : Int × Int × Unit) (z : Unit),
                                        Kd.wf (Kd.int IntKind.i64) y.fst ∧ Kd.wf (Kd.int IntKind.i64) y.snd.fst ∧ True →
                                          True →
                                            I y z →
                                              (decide (y.fst < (↑(List.length x.fst) : Int)) = true →
                                                  ((0 : Int) ≤ y.fst ∧ y.fst < (↑(List.length x.fst) : Int)) ∧
                                                    Value.bool false = Value.bool false ∧
                                                      Value.bool false = Value.bool false ∧
                                                        Value.bool false = Value.bool false ∧
                                                          (0 : Int) = (0 : Int) ∧
                                                            (0 : Int) = (0 : Int) ∧
                                                              x.fst = x.fst ∧
                                                                I
                                                                    (IntKind.wrap IntKind.i64 (y.fst + (1 : Int)),
                                                                      IntKind.wrap IntKind.i64
                                                                        (IntKind.wrap IntKind.i64 (y.snd.fst * (256 : Int)) +
                                                                          IntKind.wrap IntKind.i64 (List.getD x.fst (Int.toNat y.fst) (Kd.dft (Kd.int IntKind.u8)))),
                                                                      ())
                                                                    () ∧
                                                                  μ
                                                                      (IntKind.wrap IntKind.i64 (y.fst + (1 : Int)),
                                                                        IntKind.wrap IntKind.i64
                                                                          (IntKind.wrap IntKind.i64 (y.snd.fst * (256 : Int)) +
                                                                            IntKind.wrap IntKind.i64 (List.getD x.fst (Int.toNat y.fst) (Kd.dft (Kd.int IntKind.u8)))),
                                                                        ())
                                                                      () <
                                                                    μ y z) ∧
                                                (decide (y.fst < (↑(List.length x.fst) : Int)) = false → (y.snd.fst, (0 : Int)) = ToIntD x.fst))))) ∧
            True
theorem e14 : t14 = Con.vc c14 GL (mkEnv ty [(32, conSem c32)] [] [] [0, 2, 3, 4, 5, 8, 11, 15, 19]) {} Tryd.f14.ntmps Tryd.f14.results.toList (bodyOf Tryd.f14) := by kernel_rfl
theorem k14 : t14 := by
  unfold t14
  rintro ⟨l, _⟩ hx hp
  try dsimp +instances only [dft_int, dft_sl, dft_str]
  simp only [true_and, and_true, eq_self_iff_true, implies_true, reduceCtorEq, false_implies, true_implies, decide_eq_true_eq, decide_eq_false_iff_not, beq_self_eq_true, Bool.not_eq_true', ne_eq, Decidable.not_not, List.nil_append, List.length_singleton, List.length_cons, List.length_nil, Nat.zero_add, Nat.add_zero, Nat.mul_one, and_self, beq_iff_eq, Bool.not_true, Bool.not_false, Bool.not_eq_false', Bool.cond_false_right, Bool.and_eq_true, imp_self, Bool.not_eq_true, Bool.cond_true_left, Bool.or_eq_true]
  rintro ⟨s, _⟩ _ es
  simp only at es ⊢
  refine ⟨fun h => ?_, fun h => ⟨fun h8 => ?_, fun h8 => ?_⟩⟩
  · rw [ToIntD, if_pos (by rw [← es]; exact h)]
  · rw [ToIntD, if_neg (by rw [← es, h]; decide), if_pos (by omega)]
  · have hv : ToIntD l = (valD l, 0) := by rw [ToIntD, if_neg (by rw [← es, h]; decide), if_neg (by omega)]
    rw [hv]
    rcases l with _ | ⟨a, r⟩
    · rw [h] at es; cases es
    · have hb := head_bnd hx.1
      have hr : r.length ≤ 7 := by simp at h8; omega
      have hlen : (1 : Int) ≤ ((a :: r).length : Int) := by simp; omega
      have hlen2 : (a :: r).length = r.length + 1 := rfl
      have key : ∀ c : Int, c * 256 + a = sx a → ∃ (I : Int × Int × Unit → Unit → Prop) (μ : Int × Int × Unit → Unit → Nat), I (0, c, ()) () ∧ ∀ (y : Int × Int × Unit) (z : Unit),
          (Kd.int IntKind.i64).wf y.fst ∧ (Kd.int IntKind.i64).wf y.snd.fst → I y z →
            (y.fst < ↑(a :: r).length → (0 ≤ y.fst ∧ y.fst < ↑(a :: r).length) ∧
              I (IntKind.i64.wrap (y.fst + 1), IntKind.i64.wrap (IntKind.i64.wrap (y.snd.fst * 256) + IntKind.i64.wrap ((a :: r).getD y.fst.toNat 0)), ()) () ∧
              μ (IntKind.i64.wrap (y.fst + 1), IntKind.i64.wrap (IntKind.i64.wrap (y.snd.fst * 256) + IntKind.i64.wrap ((a :: r).getD y.fst.toNat 0)), ()) () < μ y z) ∧
            (¬y.fst < ↑(a :: r).length → (y.snd.fst, (0 : Int)) = (valD (a :: r), 0)) := by
        intro c hc
        have step : ∀ n, n ≤ r.length → foldB c ((a :: r).take (n + 1)) = foldB (sx a) (r.take n) := by
          intro n hn
          rw [List.take_succ_cons]
          show foldB (c * 256 + a) _ = _
          rw [hc]
        refine ⟨fun y _ => 0 ≤ y.1 ∧ y.1 ≤ (a :: r).length ∧ y.2.1 = foldB c ((a :: r).take y.1.toNat), fun y _ => (a :: r).length - y.1.toNat, ⟨by simp, by simp; omega, by simp [foldB]⟩, ?_⟩
        rintro ⟨i, v, _⟩ z hy ⟨h0, h1, h2⟩
        simp only at h0 h1 h2 ⊢
        refine ⟨fun hlt => ⟨⟨h0, hlt⟩, ?_⟩, fun hge => ?_⟩
        · have hw : IntKind.wrap .i64 (i + 1) = i + 1 := wrapk _ (by omega) (by omega)
          have hgb := get_bnd hx.1 i.toNat
          have hnext : foldB c ((a :: r).take (i.toNat + 1)) = v * 256 + (a :: r).getD i.toNat 0 := by
            rw [take_snoc _ _ (by omega), fold_snoc, h2]
          have hbnd := fold_fit7 hx.1 i.toNat (by omega)
          rw [← step _ (by omega), hnext] at hbnd
          have hor : IntKind.i64.wrap (IntKind.i64.wrap (v * 256) + IntKind.i64.wrap ((a :: r).getD i.toNat 0)) = v * 256 + (a :: r).getD i.toNat 0 := by
            rw [IntKind.wrap_i64, IntKind.wrap_i64, IntKind.wrap_i64]; omega
          rw [hw, hor]
          refine ⟨⟨by omega, by omega, ?_⟩, by omega⟩
          rw [show (i + 1).toNat = i.toNat + 1 by omega, hnext]
        · rw [h2, List.take_of_length_le (by omega), val_cons r hb, show foldB (sx a) r = foldB (sx a) (r.take r.length) by rw [List.take_length], ← step r.length (Nat.le_refl _), List.take_of_length_le (by simp)]
      refine ⟨⟨by omega, by omega⟩, fun h2 => key (-1) ?_, fun h2 => key 0 ?_⟩
      · have h2 : 128 ≤ a := by simpa using h2
        unfold sx; rw [if_pos h2]; omega
      · have h2 : ¬ 128 ≤ a := by simpa using h2
        unfold sx; rw [if_neg h2]; omega
theorem h14 : c14.ok Tryd.prog GL 14 := con_ok (H := {}) (mkEnv_ok (gl := GL) (l := [(32, conSem c32)]) (q := []) (d := []) _ tyOk (by kernel_rfl) ⟨h32.call, trivial⟩ trivial trivial) (by kernel_rfl) (by kernel_rfl) (Eq.mp e14 k14)

def t15 : Prop :=
  ∀ (x : List Int × Unit),
    Kd.wf (Kd.sl (Kd.int IntKind.u8)) x.fst ∧ True →
      True →
        (decide ((↑(List.length x.fst) : Int) ≠ (1 : Int)) = false → True) ∧
          (decide ((↑(List.length x.fst) : Int) ≠ (1 : Int)) = false →
              (decide ((↑(List.length x.fst) : Int) ≠ (1 : Int)) == false) = true ∧ ((0 : Int) ≤ (0 : Int) ∧ (0 : Int) < (↑(List.length x.fst) : Int)) ∧ True) ∧
            (decide ((↑(List.length x.fst) : Int) ≠ (1 : Int)) = false → (decide ((↑(List.length x.fst) : Int) ≠ (1 : Int)) == false) = true ∧ True) ∧
              (decide ((↑(List.length x.fst) : Int) ≠ (1 : Int)) = false → (decide ((↑(List.length x.fst) : Int) ≠ (1 : Int)) == false) = true ∧ True) ∧
                (decide ((↑(List.length x.fst) : Int) ≠ (1 : Int)) = false → True) ∧
                  ((decide ((↑(List.length x.fst) : Int) ≠ (1 : Int)) == false && decide ((↑(List.length x.fst) : Int) ≠ (1 : Int)) == false) = true →
                      decide (List.getD x.fst (0 : Nat) (Kd.dft (Kd.int IntKind.u8)) ≠ (0 : Int)) = true → True) ∧
                    ((decide ((↑(List.length x.fst) : Int) ≠ (1 : Int)) == false && decide ((↑(List.length x.fst) : Int) ≠ (1 : Int)) == false) = true →
                        decide (List.getD x.fst (0 : Nat) (Kd.dft (Kd.int IntKind.u8)) ≠ (0 : Int)) = true →
                          (decide ((↑(List.length x.fst) : Int) ≠ (1 : Int)) == false && decide ((↑(List.length x.fst) : Int) ≠ (1 : Int)) == false &&
                                decide (List.getD x.fst (0 : Nat) (Kd.dft (Kd.int IntKind.u8)) ≠ (0 : Int)) == true) =
                              true ∧
                            ((0 : Int) ≤ (0 : Int) ∧ (0 : Int) < (↑(List.length x.fst) : Int)) ∧ True) ∧
                      ((decide ((↑(List.length x.fst) : Int) ≠ (1 : Int)) == false && decide ((↑(List.length x.fst) : Int) ≠ (1 : Int)) == false) = true →
                          decide (List.getD x.fst (0 : Nat) (Kd.dft (Kd.int IntKind.u8)) ≠ (0 : Int)) = true →
                            (decide ((↑(List.length x.fst) : Int) ≠ (1 : Int)) == false && decide ((↑(List.length x.fst) : Int) ≠ (1 : Int)) == false &&
                                  decide (List.getD x.fst (0 : Nat) (Kd.dft (Kd.int IntKind.u8)) ≠ (0 : Int)) == true) =
                                true ∧
                              True) ∧
                        ((decide ((↑(List.length x.fst) : Int) ≠ (1 : Int)) == false && decide ((↑(List.length x.fst) : Int) ≠ (1 : Int)) == false) = true →
                            decide (List.getD x.fst (0 : Nat) (Kd.dft (Kd.int IntKind.u8)) ≠ (0 : Int)) = true →
                              (decide ((↑(List.length x.fst) : Int) ≠ (1 : Int)) == false && decide ((↑(List.length x.fst) : Int) ≠ (1 : Int)) == false &&
                                    decide (List.getD x.fst (0 : Nat) (Kd.dft (Kd.int IntKind.u8)) ≠ (0 : Int)) == true) =
                                  true ∧
                                True) ∧
                          (decide ((↑(List.length x.fst) : Int) ≠ (1 : Int)) = false →
                              (decide ((↑(List.length x.fst) : Int) ≠ (1 : Int)) == false && decide ((↑(List.length x.fst) : Int) ≠ (1 : Int)) == false) = true ∧
                                (decide (List.getD x.fst (0 : Nat) (Kd.dft (Kd.int IntKind.u8)) ≠ (0 : Int)) = true →
                                    (decide ((↑(List.length x.fst) : Int) ≠ (1 : Int)) == false && decide ((↑(List.length x.fst) : Int) ≠ (1 : Int)) == false &&
                                        decide (List.getD x.fst (0 : Nat) (Kd.dft (Kd.int IntKind.u8)) ≠ (0 : Int)) == true) =
                                      true) ∧
                                  True) ∧
                            (decide ((↑(List.length x.fst) : Int) ≠ (1 : Int)) = false → (decide ((↑(List.length x.fst) : Int) ≠ (1 : Int)) == false) = true) ∧
                              ((bif decide ((↑(List.length x.fst) : Int) ≠ (1 : Int)) then true
                                    else
                                      bif decide (List.getD x.fst (0 : Nat) (Kd.dft (Kd.int IntKind.u8)) ≠ (0 : Int)) then decide (List.getD x.fst (0 : Nat) (Kd.dft (Kd.int IntKind.u8)) ≠ (255 : Int))
                                      else false) =
                                    true →
                                  (false, (20 : Int)) = ToBoolD x.fst) ∧
                                ((bif decide ((↑(List.length x.fst) : Int) ≠ (1 : Int)) then true
                                    else
                                      bif decide (List.getD x.fst (0 : Nat) (Kd.dft (Kd.int IntKind.u8)) ≠ (0 : Int)) then decide (List.getD x.fst (0 : Nat) (Kd.dft (Kd.int IntKind.u8)) ≠ (255 : Int))
                                      else false) =
                                    false →
                                  ((0 : Int) ≤ (0 : Int) ∧ (0 : Int) < (↑(List.length x.fst) : Int)) ∧
                                    (decide (List.getD x.fst (0 : Nat) (Kd.dft (Kd.int IntKind.u8)) = (255 : Int)), (0 : Int)) = ToBoolD x.fst)
theorem e15 : t15 = Con.vc c15 GL (mkEnv ty [] [] [] [0, 2, 3, 18]) {} Tryd.f15.ntmps Tryd.f15.results.toList (bodyOf Tryd.f15) := by kernel_rfl
theorem k15 : t15 := by
  unfold t15
  rintro ⟨l, _⟩ hx hp
  try dsimp +instances only [dft_int, dft_sl, dft_str]
  simp only [true_and, and_true, eq_self_iff_true, implies_true, reduceCtorEq, false_implies, true_implies, decide_eq_true_eq, decide_eq_false_iff_not, beq_self_eq_true, Bool.not_eq_true', ne_eq, Decidable.not_not, List.nil_append, List.length_singleton, List.length_cons, List.length_nil, Nat.zero_add, Nat.add_zero, Nat.mul_one, and_self, beq_iff_eq, Bool.not_true, Bool.not_false, Bool.not_eq_false', Bool.cond_false_right, Bool.and_eq_true, imp_self, Bool.not_eq_true, Bool.cond_true_left, Bool.or_eq_true]
  rcases l with _ | ⟨a, _ | ⟨b, r⟩⟩
  · simp [ToBoolD]
  · by_cases ha : a = 255
    · subst ha; simp [ToBoolD]
    · by_cases h0 : a = 0
      · subst h0; simp [ToBoolD]
      · simp [ToBoolD, ha, h0]
  · simp [ToBoolD]
    omega
theorem h15 : c15.ok Tryd.prog GL 15 := con_ok (H := {}) (mkEnv_ok (gl := GL) (l := []) (q := []) (d := []) _ tyOk (by kernel_rfl) trivial trivial trivial) (by kernel_rfl) (by kernel_rfl) (Eq.mp e15 k15)

def t16 : Prop :=
  ∀ (x : List Int × Unit),
    Kd.wf (Kd.sl (Kd.int IntKind.u8)) x.fst ∧ True →
      True →
        ((True ∧
              (∀ (y : List Int × Unit),
                  Kd.wf (Kd.sl (Kd.int IntKind.u8)) y.fst ∧ True →
                    y.fst = BoolD true →
                      (((decide (x.fst = y.fst) = true → (true, (0 : Int)) = ToBoolD x.fst) ∧
                            (decide (x.fst = y.fst) = false →
                              ((True ∧
                                    (∀ (y : List Int × Unit),
                                        Kd.wf (Kd.sl (Kd.int IntKind.u8)) y.fst ∧ True →
                                          y.fst = BoolD false →
                                            (((decide (x.fst = y.fst) = true → (false, (0 : Int)) = ToBoolD x.fst) ∧ (decide (x.fst = y.fst) = false → (false, (20 : Int)) = ToBoolD x.fst)) ∧ True) ∧
                                              True) ∧
                                      True) ∧
                                  True) ∧
                                (True ∧
                                    (∀ (y : List Int × Unit),
                                        Kd.wf (Kd.sl (Kd.int IntKind.u8)) y.fst ∧ True →
                                          y.fst = BoolD false →
                                            ((((decide (x.fst = y.fst) = true → (false, (0 : Int)) = ToBoolD x.fst) ∧ (decide (x.fst = y.fst) = false → (false, (20 : Int)) = ToBoolD x.fst)) ∧ True) ∧
                                                True) ∧
                                              ((((decide (x.fst = y.fst) = true → (false, (0 : Int)) = ToBoolD x.fst) ∧ (decide (x.fst = y.fst) = false → (false, (20 : Int)) = ToBoolD x.fst)) ∧ True) ∧
                                                  True) ∧
                                                True) ∧
                                      True) ∧
                                  True)) ∧
                          True) ∧
                        True) ∧
                True) ∧
            True) ∧
          (True ∧
              (∀ (y : List Int × Unit),
                  Kd.wf (Kd.sl (Kd.int IntKind.u8)) y.fst ∧ True →
                    y.fst = BoolD true →
                      ((((decide (x.fst = y.fst) = true → (true, (0 : Int)) = ToBoolD x.fst) ∧
                              (decide (x.fst = y.fst) = false →
                                ((True ∧
                                      (∀ (y : List Int × Unit),
                                          Kd.wf (Kd.sl (Kd.int IntKind.u8)) y.fst ∧ True →
                                            y.fst = BoolD false →
                                              (((decide (x.fst = y.fst) = true → (false, (0 : Int)) = ToBoolD x.fst) ∧ (decide (x.fst = y.fst) = false → (false, (20 : Int)) = ToBoolD x.fst)) ∧ True) ∧
                                                True) ∧
                                        True) ∧
                                    True) ∧
                                  (True ∧
                                      (∀ (y : List Int × Unit),
                                          Kd.wf (Kd.sl (Kd.int IntKind.u8)) y.fst ∧ True →
                                            y.fst = BoolD false →
                                              ((((decide (x.fst = y.fst) = true → (false, (0 : Int)) = ToBoolD x.fst) ∧ (decide (x.fst = y.fst) = false → (false, (20 : Int)) = ToBoolD x.fst)) ∧ True) ∧
                                                  True) ∧
                                                ((((decide (x.fst = y.fst) = true → (false, (0 : Int)) = ToBoolD x.fst) ∧ (decide (x.fst = y.fst) = false → (false, (20 : Int)) = ToBoolD x.fst)) ∧
                                                      True) ∧
                                                    True) ∧
                                                  True) ∧
                                        True) ∧
                                    True)) ∧
                            True) ∧
                          True) ∧
                        ((((decide (x.fst = y.fst) = true → (true, (0 : Int)) = ToBoolD x.fst) ∧
                                (decide (x.fst = y.fst) = false →
                                  ((True ∧
                                        (∀ (y : List Int × Unit),
                                            Kd.wf (Kd.sl (Kd.int IntKind.u8)) y.fst ∧ True →
                                              y.fst = BoolD false →
                                                (((decide (x.fst = y.fst) = true → (false, (0 : Int)) = ToBoolD x.fst) ∧ (decide (x.fst = y.fst) = false → (false, (20 : Int)) = ToBoolD x.fst)) ∧ True) ∧
                                                  True) ∧
                                          True) ∧
                                      True) ∧
                                    (True ∧
                                        (∀ (y : List Int × Unit),
                                            Kd.wf (Kd.sl (Kd.int IntKind.u8)) y.fst ∧ True →
                                              y.fst = BoolD false →
                                                ((((decide (x.fst = y.fst) = true → (false, (0 : Int)) = ToBoolD x.fst) ∧ (decide (x.fst = y.fst) = false → (false, (20 : Int)) = ToBoolD x.fst)) ∧
                                                      True) ∧
                                                    True) ∧
                                                  ((((decide (x.fst = y.fst) = true → (false, (0 : Int)) = ToBoolD x.fst) ∧ (decide (x.fst = y.fst) = false → (false, (20 : Int)) = ToBoolD x.fst)) ∧
                                                        True) ∧
                                                      True) ∧
                                                    True) ∧
                                          True) ∧
                                      True)) ∧
                              True) ∧
                            True) ∧
                          True) ∧
                True) ∧
            True
theorem e16 : t16 = Con.vc c16 GL (mkEnv ty [(33, conSem c33)] [] [] [0, 2, 3, 8, 13]) {} Tryd.f16.ntmps Tryd.f16.results.toList (bodyOf Tryd.f16) := by kernel_rfl
theorem k16 : t16 := by
  unfold t16
  rintro ⟨l, _⟩ hx hp
  try dsimp +instances only [dft_int, dft_sl, dft_str]
  simp only [true_and, and_true, eq_self_iff_true, implies_true, reduceCtorEq, false_implies, true_implies, decide_eq_true_eq, decide_eq_false_iff_not, beq_self_eq_true, Bool.not_eq_true', ne_eq, Decidable.not_not, List.nil_append, List.length_singleton, List.length_cons, List.length_nil, Nat.zero_add, Nat.add_zero, Nat.mul_one, and_self, beq_iff_eq, Bool.not_true, Bool.not_false, Bool.not_eq_false', Bool.cond_false_right, Bool.and_eq_true, imp_self, Bool.not_eq_true, Bool.cond_true_left, Bool.or_eq_true]
  rintro ⟨y, _⟩ _ ey
  have ey : y = [255] := ey
  subst ey
  refine ⟨fun h => by rw [ToBoolD, if_pos h], fun h => ?_⟩
  rintro ⟨z, _⟩ _ ez
  have ez : z = [0] := ez
  subst ez
  exact ⟨fun h2 => by rw [ToBoolD, if_neg h, if_pos h2], fun h2 => by rw [ToBoolD, if_neg h, if_neg h2]⟩
theorem h16 : c16.ok Tryd.prog GL 16 := con_ok (H := {}) (mkEnv_ok (gl := GL) (l := [(33, conSem c33)]) (q := []) (d := []) _ tyOk (by kernel_rfl) ⟨h33.call, trivial⟩ trivial trivial) (by kernel_rfl) (by kernel_rfl) (Eq.mp e16 k16)

def t17 : Prop :=
  ∀ (x : List Int × Unit),
    Kd.wf (Kd.sl (Kd.int IntKind.u8)) x.fst ∧ True →
      List.length x.fst ≤ (2000000 : Nat) →
        True ∧
          (∀ (y : Bool × Unit),
              Kd.wf Kd.bool y.fst ∧ True →
                y.fst = ShortD x.fst →
                  ((!y.fst) = true → ([], (20 : Int)) = ToNatD x.fst) ∧
                    ((!y.fst) = false →
                      ((0 : Int) ≤ (0 : Int) ∧ (0 : Int) < (↑(List.length x.fst) : Int)) ∧
                        (decide ((128 : Int) ≤ List.getD x.fst (0 : Nat) (Kd.dft (Kd.int IntKind.u8))) = true → ([], (22 : Int)) = ToNatD x.fst) ∧
                          (decide ((128 : Int) ≤ List.getD x.fst (0 : Nat) (Kd.dft (Kd.int IntKind.u8))) = false →
                            bs { data := #[(0 : UInt8)] } = [(0 : Int)] ∧
                              (∀ (y : List Int × Unit),
                                  Kd.wf (Kd.sl (Kd.int IntKind.u8)) y.fst ∧ True →
                                    y.fst = trimD x.fst →
                                      List.length y.fst ≤ (1000000000 : Nat) ∧
                                        (∀ (y_1 : List Int × Unit), Kd.wf (Kd.sl (Kd.int IntKind.u8)) y_1.fst ∧ True → y_1.fst = y.fst → (y_1.fst, (0 : Int)) = ToNatD x.fst) ∧ True) ∧
                                True))) ∧
            True
theorem e17 : t17 = Con.vc c17 GL (mkEnv ty [(31, conSem c31), (27, conSem c27), (29, conSem c29)] [] [] [0, 2, 3, 4, 8]) {} Tryd.f17.ntmps Tryd.f17.results.toList (bodyOf Tryd.f17) := by kernel_rfl
theorem k17 : t17 := by
  unfold t17
  rintro ⟨l, _⟩ hx hp
  have hp : l.length ≤ 2000000 := hp
  try dsimp +instances only [dft_int, dft_sl, dft_str]
  simp only [true_and, and_true, eq_self_iff_true, implies_true, reduceCtorEq, false_implies, true_implies, decide_eq_true_eq, decide_eq_false_iff_not, beq_self_eq_true, Bool.not_eq_true', ne_eq, Decidable.not_not, List.nil_append, List.length_singleton, List.length_cons, List.length_nil, Nat.zero_add, Nat.add_zero, Nat.mul_one, and_self, beq_iff_eq, Bool.not_true, Bool.not_false, Bool.not_eq_false', Bool.cond_false_right, Bool.and_eq_true, imp_self, Bool.not_eq_true, Bool.cond_true_left, Bool.or_eq_true]
  rintro ⟨s, _⟩ _ es
  simp only at es ⊢
  refine ⟨fun h => by rw [ToNatD, if_pos (by rw [← es]; exact h)], fun h => ?_⟩
  have hs : ¬ ShortD l = false := by rw [← es, h]; decide
  have hh : l.headD 0 = l.getD 0 0 := by cases l <;> rfl
  have hpos : 0 < l.length := by
    cases l with
    | nil => exact absurd rfl hs
    | cons a r => simp
  refine ⟨⟨by omega, by omega⟩, fun h2 => by rw [ToNatD, if_neg hs, if_pos (by rw [hh]; exact h2)], fun h2 => ⟨by decide, fun y _ ey => ?_⟩⟩
  have := trim_le l
  refine ⟨by rw [ey]; omega, fun z _ ez => by rw [ToNatD, if_neg hs, if_neg (by rw [hh]; exact h2), ez, ey]⟩
theorem h17 : c17.ok Tryd.prog GL 17 := con_ok (H := {}) (mkEnv_ok (gl := GL) (l := [(31, conSem c31), (27, conSem c27), (29, conSem c29)]) (q := []) (d := []) _ tyOk (by kernel_rfl) ⟨h31.call, h27.call, h29.call, trivial⟩ trivial trivial) (by kernel_rfl) (by kernel_rfl) (Eq.mp e17 k17)

def t18 : Prop :=
  ∀ (x : List Int × Unit),
    Kd.wf (Kd.sl (Kd.int IntKind.u8)) x.fst ∧ True →
      List.length x.fst ≤ (2000000 : Nat) →
        True ∧
          (∀ (y : Bool × Unit),
              Kd.wf Kd.bool y.fst ∧ True →
                y.fst = ShortD x.fst →
                  ((!y.fst) = true → ([], (20 : Int)) = ToNatD x.fst) ∧
                    ((!y.fst) = false →
                      ((0 : Int) ≤ (0 : Int) ∧ (0 : Int) < (↑(List.length x.fst) : Int)) ∧
                        (decide ((128 : Int) ≤ List.getD x.fst (0 : Nat) (Kd.dft (Kd.int IntKind.u8))) = true → ([], (22 : Int)) = ToNatD x.fst) ∧
                          (decide ((128 : Int) ≤ List.getD x.fst (0 : Nat) (Kd.dft (Kd.int IntKind.u8))) = false →
                            List.length x.fst ≤ (2000000 : Nat) ∧
                              (∀ (y : List Int × Unit), Kd.wf (Kd.sl (Kd.int IntKind.u8)) y.fst ∧ True → y.fst = trimD x.fst → (y.fst, (0 : Int)) = ToNatD x.fst) ∧ True))) ∧
            True
theorem e18 : t18 = Con.vc c18 GL (mkEnv ty [(32, conSem c32), (30, conSem c30)] [] [] [0, 2, 3, 6, 10]) {} Tryd.f18.ntmps Tryd.f18.results.toList (bodyOf Tryd.f18) := by kernel_rfl
theorem k18 : t18 := by
  unfold t18
  rintro ⟨l, _⟩ hx hp
  have hp : l.length ≤ 2000000 := hp
  try dsimp +instances only [dft_int, dft_sl, dft_str]
  simp only [true_and, and_true, eq_self_iff_true, implies_true, reduceCtorEq, false_implies, true_implies, decide_eq_true_eq, decide_eq_false_iff_not, beq_self_eq_true, Bool.not_eq_true', ne_eq, Decidable.not_not, List.nil_append, List.length_singleton, List.length_cons, List.length_nil, Nat.zero_add, Nat.add_zero, Nat.mul_one, and_self, beq_iff_eq, Bool.not_true, Bool.not_false, Bool.not_eq_false', Bool.cond_false_right, Bool.and_eq_true, imp_self, Bool.not_eq_true, Bool.cond_true_left, Bool.or_eq_true]
  rintro ⟨s, _⟩ _ es
  simp only at es ⊢
  refine ⟨fun h => by rw [ToNatD, if_pos (by rw [← es]; exact h)], fun h => ?_⟩
  have hs : ¬ ShortD l = false := by rw [← es, h]; decide
  have hh : l.headD 0 = l.getD 0 0 := by cases l <;> rfl
  have hpos : 0 < l.length := by
    cases l with
    | nil => exact absurd rfl hs
    | cons a r => simp
  exact ⟨⟨by omega, by omega⟩, fun h2 => by rw [ToNatD, if_neg hs, if_pos (by rw [hh]; exact h2)], fun h2 => ⟨hp, fun y _ ey => by rw [ToNatD, if_neg hs, if_neg (by rw [hh]; exact h2), ey]⟩⟩
theorem h18 : c18.ok Tryd.prog GL 18 := con_ok (H := {}) (mkEnv_ok (gl := GL) (l := [(32, conSem c32), (30, conSem c30)]) (q := []) (d := []) _ tyOk (by kernel_rfl) ⟨h32.call, h30.call, trivial⟩ trivial trivial) (by kernel_rfl) (by kernel_rfl) (Eq.mp e18 k18)

def t19 : Prop :=
  ∀ (x : List Int × Unit),
    Kd.wf (Kd.sl (Kd.int IntKind.u8)) x.fst ∧ True →
      List.length x.fst ≤ (2000000 : Nat) →
        (decide ((↑(List.length x.fst) : Int) = (0 : Int)) = false → True) ∧
          (decide ((↑(List.length x.fst) : Int) = (0 : Int)) = false →
              (decide ((↑(List.length x.fst) : Int) = (0 : Int)) == false) = true ∧ ((0 : Int) ≤ (1 : Int) ∧ (1 : Int) ≤ (↑(List.length x.fst) : Int)) ∧ True) ∧
            (decide ((↑(List.length x.fst) : Int) = (0 : Int)) = false → True) ∧
              (decide ((↑(List.length x.fst) : Int) = (0 : Int)) = false →
                  (decide ((↑(List.length x.fst) : Int) = (0 : Int)) == false) = true ∧ ((0 : Int) ≤ (0 : Int) ∧ (0 : Int) < (↑(List.length x.fst) : Int)) ∧ True) ∧
                (decide ((↑(List.length x.fst) : Int) = (0 : Int)) = false → (decide ((↑(List.length x.fst) : Int) = (0 : Int)) == false) = true ∧ True) ∧
                  (decide ((↑(List.length x.fst) : Int) = (0 : Int)) = false → (decide ((↑(List.length x.fst) : Int) = (0 : Int)) == false) = true ∧ True) ∧
                    (decide ((↑(List.length x.fst) : Int) = (0 : Int)) = false →
                        (decide ((↑(List.length x.fst) : Int) = (0 : Int)) == false) = true ∧
                          (decide ((↑(List.length x.fst) : Int) = (0 : Int)) == false) = true ∧
                            True ∧
                              (∀ (y : Bool × Unit),
                                  Kd.wf Kd.bool y.fst ∧ True →
                                    y.fst = FitsD (List.drop (1 : Nat) x.fst) (IntKind.wrap IntKind.i64 (List.getD x.fst (0 : Nat) (Kd.dft (Kd.int IntKind.u8)))) →
                                      ((!y.fst) = true → ([], (0 : Int), (20 : Int)) = ToBitsD x.fst) ∧
                                        ((!y.fst) = false →
                                          (((0 : Int) ≤ (1 : Int) ∧ (1 : Int) ≤ (↑(List.length x.fst) : Int)) ∧
                                              (List.length (List.drop (1 : Nat) x.fst) ≤ (1000000000 : Nat) ∧
                                                  (∀ (y : List Int × Unit),
                                                      Kd.wf (Kd.sl (Kd.int IntKind.u8)) y.fst ∧ True →
                                                        y.fst = List.drop (1 : Nat) x.fst →
                                                          (((0 : Int) ≤ (0 : Int) ∧ (0 : Int) < (↑(List.length x.fst) : Int)) ∧
                                                              ((y.fst, IntKind.wrap IntKind.i64 (List.getD x.fst (0 : Nat) (Kd.dft (Kd.int IntKind.u8))), (0 : Int)) = ToBitsD x.fst ∧ True) ∧ True) ∧
                                                            True) ∧
                                                    True) ∧
                                                (((0 : Int) ≤ (0 : Int) ∧ (0 : Int) < (↑(List.length x.fst) : Int)) ∧
                                                    (List.length (List.drop (1 : Nat) x.fst) ≤ (1000000000 : Nat) ∧
                                                        (∀ (y : List Int × Unit),
                                                            Kd.wf (Kd.sl (Kd.int IntKind.u8)) y.fst ∧ True →
                                                              y.fst = List.drop (1 : Nat) x.fst →
                                                                ((y.fst, IntKind.wrap IntKind.i64 (List.getD x.fst (0 : Nat) (Kd.dft (Kd.int IntKind.u8))), (0 : Int)) = ToBitsD x.fst ∧ True) ∧ True) ∧
                                                          True) ∧
                                                      ((List.length (List.drop (1 : Nat) x.fst) ≤ (1000000000 : Nat) ∧
                                                            (∀ (y : List Int × Unit),
                                                                Kd.wf (Kd.sl (Kd.int IntKind.u8)) y.fst ∧ True →
                                                                  y.fst = List.drop (1 : Nat) x.fst →
                                                                    (y.fst, IntKind.wrap IntKind.i64 (List.getD x.fst (0 : Nat) (Kd.dft (Kd.int IntKind.u8))), (0 : Int)) = ToBitsD x.fst ∧ True) ∧
                                                              True) ∧
                                                          ((List.length (List.drop (1 : Nat) x.fst) ≤ (1000000000 : Nat) ∧
                                                                (∀ (y : List Int × Unit),
                                                                    Kd.wf (Kd.sl (Kd.int IntKind.u8)) y.fst ∧ True →
                                                                      y.fst = List.drop (1 : Nat) x.fst →
                                                                        (y.fst, IntKind.wrap IntKind.i64 (List.getD x.fst (0 : Nat) (Kd.dft (Kd.int IntKind.u8))), (0 : Int)) = ToBitsD x.fst) ∧
                                                                  True) ∧
                                                              True) ∧
                                                            True) ∧
                                                        True) ∧
                                                  True) ∧
                                            (((0 : Int) ≤ (0 : Int) ∧ (0 : Int) < (↑(List.length x.fst) : Int)) ∧
                                                (((0 : Int) ≤ (1 : Int) ∧ (1 : Int) ≤ (↑(List.length x.fst) : Int)) ∧
                                                    (List.length (List.drop (1 : Nat) x.fst) ≤ (1000000000 : Nat) ∧
                                                        (∀ (y : List Int × Unit),
                                                            Kd.wf (Kd.sl (Kd.int IntKind.u8)) y.fst ∧ True →
                                                              y.fst = List.drop (1 : Nat) x.fst →
                                                                ((y.fst, IntKind.wrap IntKind.i64 (List.getD x.fst (0 : Nat) (Kd.dft (Kd.int IntKind.u8))), (0 : Int)) = ToBitsD x.fst ∧ True) ∧ True) ∧
                                                          True) ∧
                                                      ((List.length (List.drop (1 : Nat) x.fst) ≤ (1000000000 : Nat) ∧
                                                            (∀ (y : List Int × Unit),
                                                                Kd.wf (Kd.sl (Kd.int IntKind.u8)) y.fst ∧ True →
                                                                  y.fst = List.drop (1 : Nat) x.fst →
                                                                    (y.fst, IntKind.wrap IntKind.i64 (List.getD x.fst (0 : Nat) (Kd.dft (Kd.int IntKind.u8))), (0 : Int)) = ToBitsD x.fst ∧ True) ∧
                                                              True) ∧
                                                          ((List.length (List.drop (1 : Nat) x.fst) ≤ (1000000000 : Nat) ∧
                                                                (∀ (y : List Int × Unit),
                                                                    Kd.wf (Kd.sl (Kd.int IntKind.u8)) y.fst ∧ True →
                                                                      y.fst = List.drop (1 : Nat) x.fst →
                                                                        (y.fst, IntKind.wrap IntKind.i64 (List.getD x.fst (0 : Nat) (Kd.dft (Kd.int IntKind.u8))), (0 : Int)) = ToBitsD x.fst) ∧
                                                                  True) ∧
                                                              True) ∧
                                                            True) ∧
                                                        True) ∧
                                                  ((((0 : Int) ≤ (1 : Int) ∧ (1 : Int) ≤ (↑(List.length x.fst) : Int)) ∧
                                                        (List.length (List.drop (1 : Nat) x.fst) ≤ (1000000000 : Nat) ∧
                                                            (∀ (y : List Int × Unit),
                                                                Kd.wf (Kd.sl (Kd.int IntKind.u8)) y.fst ∧ True →
                                                                  y.fst = List.drop (1 : Nat) x.fst →
                                                                    (y.fst, IntKind.wrap IntKind.i64 (List.getD x.fst (0 : Nat) (Kd.dft (Kd.int IntKind.u8))), (0 : Int)) = ToBitsD x.fst ∧ True) ∧
                                                              True) ∧
                                                          ((List.length (List.drop (1 : Nat) x.fst) ≤ (1000000000 : Nat) ∧
                                                                (∀ (y : List Int × Unit),
                                                                    Kd.wf (Kd.sl (Kd.int IntKind.u8)) y.fst ∧ True →
                                                                      y.fst = List.drop (1 : Nat) x.fst →
                                                                        (y.fst, IntKind.wrap IntKind.i64 (List.getD x.fst (0 : Nat) (Kd.dft (Kd.int IntKind.u8))), (0 : Int)) = ToBitsD x.fst) ∧
                                                                  True) ∧
                                                              True) ∧
                                                            True) ∧
                                                      ((((0 : Int) ≤ (1 : Int) ∧ (1 : Int) ≤ (↑(List.length x.fst) : Int)) ∧
                                                            (List.length (List.drop (1 : Nat) x.fst) ≤ (1000000000 : Nat) ∧
                                                                (∀ (y : List Int × Unit),
                                                                    Kd.wf (Kd.sl (Kd.int IntKind.u8)) y.fst ∧ True →
                                                                      y.fst = List.drop (1 : Nat) x.fst →
                                                                        (y.fst, IntKind.wrap IntKind.i64 (List.getD x.fst (0 : Nat) (Kd.dft (Kd.int IntKind.u8))), (0 : Int)) = ToBitsD x.fst) ∧
                                                                  True) ∧
                                                              True) ∧
                                                          True) ∧
                                                        True) ∧
                                                    True) ∧
                                              True)) ∧
                                True) ∧
                      (decide ((↑(List.length x.fst) : Int) = (0 : Int)) = !false → ([], (0 : Int), (20 : Int)) = ToBitsD x.fst)
theorem e19 : t19 = Con.vc c19 GL (mkEnv ty [(34, conSem c34), (29, conSem c29)] [] [] [0, 2, 3, 4, 17]) {} Tryd.f19.ntmps Tryd.f19.results.toList (bodyOf Tryd.f19) := by kernel_rfl
theorem k19 : t19 := by
  unfold t19
  rintro ⟨l, _⟩ hx hp
  have hp : l.length ≤ 2000000 := hp
  try dsimp +instances only [dft_int, dft_sl, dft_str]
  simp only [true_and, and_true, eq_self_iff_true, implies_true, reduceCtorEq, false_implies, true_implies, decide_eq_true_eq, decide_eq_false_iff_not, beq_self_eq_true, Bool.not_eq_true', ne_eq, Decidable.not_not, List.nil_append, List.length_singleton, List.length_cons, List.length_nil, Nat.zero_add, Nat.add_zero, Nat.mul_one, and_self, beq_iff_eq, Bool.not_true, Bool.not_false, Bool.not_eq_false', Bool.cond_false_right, Bool.and_eq_true, imp_self, Bool.not_eq_true, Bool.cond_true_left, Bool.or_eq_true]
  rcases l with _ | ⟨a, r⟩
  · simp [ToBitsD]
  · have hb := head_bnd hx.1
    have hw : IntKind.wrap .i64 a = a := wrapk a (by omega) (by omega)
    have hne : ¬ ((a :: r).length : Int) = 0 := by simp; omega
    have hr : r.length ≤ 2000000 := by simp at hp; omega
    have b0 : (0 : Int) ≤ 0 ∧ 0 < ((a :: r).length : Int) := by simp
    have b1 : (0 : Int) ≤ 1 ∧ 1 ≤ ((a :: r).length : Int) := by simp; omega
    simp only [List.getD_cons_zero, List.drop_succ_cons, List.drop_zero, hw]
    refine ⟨fun h => ⟨h, b1⟩, fun h => ⟨h, b0⟩, fun h => ⟨h, h, ?_⟩, fun h => absurd h hne⟩
    rintro ⟨s, _⟩ _ es
    simp only at es ⊢
    refine ⟨fun hs => by rw [ToBitsD, if_neg (by rw [← es, hs]; decide)], fun hs => ?_⟩
    have hbb : ToBitsD (a :: r) = (r, a, 0) := by rw [ToBitsD, if_pos (by rw [← es]; exact hs)]
    rw [hbb]
    exact ⟨⟨b1, ⟨by omega, fun y _ ey => ⟨b0, by rw [ey]⟩⟩, b0, by omega, fun y _ ey => by rw [ey]⟩, b0, b1, by omega, fun y _ ey => by rw [ey]⟩
theorem h19 : c19.ok Tryd.prog GL 19 := con_ok (H := {}) (mkEnv_ok (gl := GL) (l := [(34, conSem c34), (29, conSem c29)]) (q := []) (d := []) _ tyOk (by kernel_rfl) ⟨h34.call, h29.call, trivial⟩ trivial trivial) (by kernel_rfl) (by kernel_rfl) (Eq.mp e19 k19)

def t20 : Prop :=
  ∀ (x : List Int × Unit),
    Kd.wf (Kd.sl (Kd.int IntKind.u8)) x.fst ∧ True →
      List.length x.fst ≤ (2000000 : Nat) →
        (decide ((↑(List.length x.fst) : Int) = (0 : Int)) = false → True) ∧
          (decide ((↑(List.length x.fst) : Int) = (0 : Int)) = false →
              (decide ((↑(List.length x.fst) : Int) = (0 : Int)) == false) = true ∧ ((0 : Int) ≤ (1 : Int) ∧ (1 : Int) ≤ (↑(List.length x.fst) : Int)) ∧ True) ∧
            (decide ((↑(List.length x.fst) : Int) = (0 : Int)) = false → True) ∧
              (decide ((↑(List.length x.fst) : Int) = (0 : Int)) = false →
                  (decide ((↑(List.length x.fst) : Int) = (0 : Int)) == false) = true ∧ ((0 : Int) ≤ (0 : Int) ∧ (0 : Int) < (↑(List.length x.fst) : Int)) ∧ True) ∧
                (decide ((↑(List.length x.fst) : Int) = (0 : Int)) = false → (decide ((↑(List.length x.fst) : Int) = (0 : Int)) == false) = true ∧ True) ∧
                  (decide ((↑(List.length x.fst) : Int) = (0 : Int)) = false → (decide ((↑(List.length x.fst) : Int) = (0 : Int)) == false) = true ∧ True) ∧
                    (decide ((↑(List.length x.fst) : Int) = (0 : Int)) = false →
                        (decide ((↑(List.length x.fst) : Int) = (0 : Int)) == false) = true ∧
                          (decide ((↑(List.length x.fst) : Int) = (0 : Int)) == false) = true ∧
                            True ∧
                              (∀ (y : Bool × Unit),
                                  Kd.wf Kd.bool y.fst ∧ True →
                                    y.fst = FitsD (List.drop (1 : Nat) x.fst) (IntKind.wrap IntKind.i64 (List.getD x.fst (0 : Nat) (Kd.dft (Kd.int IntKind.u8)))) →
                                      ((!y.fst) = true → ([], (0 : Int), (20 : Int)) = ToBitsD x.fst) ∧
                                        ((!y.fst) = false →
                                          ((((0 : Int) ≤ (1 : Int) ∧ (1 : Int) ≤ (↑(List.length x.fst) : Int)) ∧
                                                ((0 : Nat) < (1 : Nat) ∧
                                                    ((0 : Nat) + List.length (List.drop (1 : Nat) x.fst)) * (1 : Nat) ≤ (140737488355328 : Nat) ∧
                                                      (0 : Nat) + List.length (List.drop (1 : Nat) x.fst) ≤ (9223372036854775807 : Nat) ∧
                                                        (((0 : Int) ≤ (0 : Int) ∧ (0 : Int) < (↑(List.length x.fst) : Int)) ∧
                                                            (([] ++ List.drop (1 : Nat) x.fst, IntKind.wrap IntKind.i64 (List.getD x.fst (0 : Nat) (Kd.dft (Kd.int IntKind.u8))), (0 : Int)) =
                                                                  ToBitsD x.fst ∧
                                                                True) ∧
                                                              True) ∧
                                                          True) ∧
                                                  (((0 : Int) ≤ (0 : Int) ∧ (0 : Int) < (↑(List.length x.fst) : Int)) ∧
                                                      ((0 : Nat) < (1 : Nat) ∧
                                                          ((0 : Nat) + List.length (List.drop (1 : Nat) x.fst)) * (1 : Nat) ≤ (140737488355328 : Nat) ∧
                                                            (0 : Nat) + List.length (List.drop (1 : Nat) x.fst) ≤ (9223372036854775807 : Nat) ∧
                                                              (([] ++ List.drop (1 : Nat) x.fst, IntKind.wrap IntKind.i64 (List.getD x.fst (0 : Nat) (Kd.dft (Kd.int IntKind.u8))), (0 : Int)) =
                                                                    ToBitsD x.fst ∧
                                                                  True) ∧
                                                                True) ∧
                                                        (((0 : Nat) < (1 : Nat) ∧
                                                              ((0 : Nat) + List.length (List.drop (1 : Nat) x.fst)) * (1 : Nat) ≤ (140737488355328 : Nat) ∧
                                                                (0 : Nat) + List.length (List.drop (1 : Nat) x.fst) ≤ (9223372036854775807 : Nat) ∧
                                                                  ([] ++ List.drop (1 : Nat) x.fst, IntKind.wrap IntKind.i64 (List.getD x.fst (0 : Nat) (Kd.dft (Kd.int IntKind.u8))), (0 : Int)) =
                                                                      ToBitsD x.fst ∧
                                                                    True) ∧
                                                            (((0 : Nat) < (1 : Nat) ∧
                                                                  ((0 : Nat) + List.length (List.drop (1 : Nat) x.fst)) * (1 : Nat) ≤ (140737488355328 : Nat) ∧
                                                                    (0 : Nat) + List.length (List.drop (1 : Nat) x.fst) ≤ (9223372036854775807 : Nat) ∧
                                                                      ([] ++ List.drop (1 : Nat) x.fst, IntKind.wrap IntKind.i64 (List.getD x.fst (0 : Nat) (Kd.dft (Kd.int IntKind.u8))), (0 : Int)) =
                                                                        ToBitsD x.fst) ∧
                                                                True) ∧
                                                              True) ∧
                                                          True) ∧
                                                    True) ∧
                                              (((0 : Int) ≤ (0 : Int) ∧ (0 : Int) < (↑(List.length x.fst) : Int)) ∧
                                                  (((0 : Int) ≤ (1 : Int) ∧ (1 : Int) ≤ (↑(List.length x.fst) : Int)) ∧
                                                      ((0 : Nat) < (1 : Nat) ∧
                                                          ((0 : Nat) + List.length (List.drop (1 : Nat) x.fst)) * (1 : Nat) ≤ (140737488355328 : Nat) ∧
                                                            (0 : Nat) + List.length (List.drop (1 : Nat) x.fst) ≤ (9223372036854775807 : Nat) ∧
                                                              (([] ++ List.drop (1 : Nat) x.fst, IntKind.wrap IntKind.i64 (List.getD x.fst (0 : Nat) (Kd.dft (Kd.int IntKind.u8))), (0 : Int)) =
                                                                    ToBitsD x.fst ∧
                                                                  True) ∧
                                                                True) ∧
                                                        (((0 : Nat) < (1 : Nat) ∧
                                                              ((0 : Nat) + List.length (List.drop (1 : Nat) x.fst)) * (1 : Nat) ≤ (140737488355328 : Nat) ∧
                                                                (0 : Nat) + List.length (List.drop (1 : Nat) x.fst) ≤ (9223372036854775807 : Nat) ∧
                                                                  ([] ++ List.drop (1 : Nat) x.fst, IntKind.wrap IntKind.i64 (List.getD x.fst (0 : Nat) (Kd.dft (Kd.int IntKind.u8))), (0 : Int)) =
                                                                      ToBitsD x.fst ∧
                                                                    True) ∧
                                                            (((0 : Nat) < (1 : Nat) ∧
                                                                  ((0 : Nat) + List.length (List.drop (1 : Nat) x.fst)) * (1 : Nat) ≤ (140737488355328 : Nat) ∧
                                                                    (0 : Nat) + List.length (List.drop (1 : Nat) x.fst) ≤ (9223372036854775807 : Nat) ∧
                                                                      ([] ++ List.drop (1 : Nat) x.fst, IntKind.wrap IntKind.i64 (List.getD x.fst (0 : Nat) (Kd.dft (Kd.int IntKind.u8))), (0 : Int)) =
                                                                        ToBitsD x.fst) ∧
                                                                True) ∧
                                                              True) ∧
                                                          True) ∧
                                                    ((((0 : Int) ≤ (1 : Int) ∧ (1 : Int) ≤ (↑(List.length x.fst) : Int)) ∧
                                                          ((0 : Nat) < (1 : Nat) ∧
                                                              ((0 : Nat) + List.length (List.drop (1 : Nat) x.fst)) * (1 : Nat) ≤ (140737488355328 : Nat) ∧
                                                                (0 : Nat) + List.length (List.drop (1 : Nat) x.fst) ≤ (9223372036854775807 : Nat) ∧
                                                                  ([] ++ List.drop (1 : Nat) x.fst, IntKind.wrap IntKind.i64 (List.getD x.fst (0 : Nat) (Kd.dft (Kd.int IntKind.u8))), (0 : Int)) =
                                                                      ToBitsD x.fst ∧
                                                                    True) ∧
                                                            (((0 : Nat) < (1 : Nat) ∧
                                                                  ((0 : Nat) + List.length (List.drop (1 : Nat) x.fst)) * (1 : Nat) ≤ (140737488355328 : Nat) ∧
                                                                    (0 : Nat) + List.length (List.drop (1 : Nat) x.fst) ≤ (9223372036854775807 : Nat) ∧
                                                                      ([] ++ List.drop (1 : Nat) x.fst, IntKind.wrap IntKind.i64 (List.getD x.fst (0 : Nat) (Kd.dft (Kd.int IntKind.u8))), (0 : Int)) =
                                                                        ToBitsD x.fst) ∧
                                                                True) ∧
                                                              True) ∧
                                                        ((((0 : Int) ≤ (1 : Int) ∧ (1 : Int) ≤ (↑(List.length x.fst) : Int)) ∧
                                                              ((0 : Nat) < (1 : Nat) ∧
                                                                  ((0 : Nat) + List.length (List.drop (1 : Nat) x.fst)) * (1 : Nat) ≤ (140737488355328 : Nat) ∧
                                                                    (0 : Nat) + List.length (List.drop (1 : Nat) x.fst) ≤ (9223372036854775807 : Nat) ∧
                                                                      ([] ++ List.drop (1 : Nat) x.fst, IntKind.wrap IntKind.i64 (List.getD x.fst (0 : Nat) (Kd.dft (Kd.int IntKind.u8))), (0 : Int)) =
                                                                        ToBitsD x.fst) ∧
                                                                True) ∧
                                                            True) ∧
                                                          True) ∧
                                                      True) ∧
                                                True) ∧
                                            (((0 : Int) ≤ (1 : Int) ∧ (1 : Int) ≤ (↑(List.length x.fst) : Int)) ∧
                                                (((0 : Nat) < (1 : Nat) ∧
                                                      ((0 : Nat) + List.length (List.drop (1 : Nat) x.fst)) * (1 : Nat) ≤ (140737488355328 : Nat) ∧
                                                        (0 : Nat) + List.length (List.drop (1 : Nat) x.fst) ≤ (9223372036854775807 : Nat) ∧
                                                          (((0 : Int) ≤ (0 : Int) ∧ (0 : Int) < (↑(List.length x.fst) : Int)) ∧
                                                              (([] ++ List.drop (1 : Nat) x.fst, IntKind.wrap IntKind.i64 (List.getD x.fst (0 : Nat) (Kd.dft (Kd.int IntKind.u8))), (0 : Int)) =
                                                                    ToBitsD x.fst ∧
                                                                  True) ∧
                                                                True) ∧
                                                            True) ∧
                                                    (((0 : Int) ≤ (0 : Int) ∧ (0 : Int) < (↑(List.length x.fst) : Int)) ∧
                                                        ((0 : Nat) < (1 : Nat) ∧
                                                            ((0 : Nat) + List.length (List.drop (1 : Nat) x.fst)) * (1 : Nat) ≤ (140737488355328 : Nat) ∧
                                                              (0 : Nat) + List.length (List.drop (1 : Nat) x.fst) ≤ (9223372036854775807 : Nat) ∧
                                                                (([] ++ List.drop (1 : Nat) x.fst, IntKind.wrap IntKind.i64 (List.getD x.fst (0 : Nat) (Kd.dft (Kd.int IntKind.u8))), (0 : Int)) =
                                                                      ToBitsD x.fst ∧
                                                                    True) ∧
                                                                  True) ∧
                                                          (((0 : Nat) < (1 : Nat) ∧
                                                                ((0 : Nat) + List.length (List.drop (1 : Nat) x.fst)) * (1 : Nat) ≤ (140737488355328 : Nat) ∧
                                                                  (0 : Nat) + List.length (List.drop (1 : Nat) x.fst) ≤ (9223372036854775807 : Nat) ∧
                                                                    ([] ++ List.drop (1 : Nat) x.fst, IntKind.wrap IntKind.i64 (List.getD x.fst (0 : Nat) (Kd.dft (Kd.int IntKind.u8))), (0 : Int)) =
                                                                        ToBitsD x.fst ∧
                                                                      True) ∧
                                                              (((0 : Nat) < (1 : Nat) ∧
                                                                    ((0 : Nat) + List.length (List.drop (1 : Nat) x.fst)) * (1 : Nat) ≤ (140737488355328 : Nat) ∧
                                                                      (0 : Nat) + List.length (List.drop (1 : Nat) x.fst) ≤ (9223372036854775807 : Nat) ∧
                                                                        ([] ++ List.drop (1 : Nat) x.fst, IntKind.wrap IntKind.i64 (List.getD x.fst (0 : Nat) (Kd.dft (Kd.int IntKind.u8))), (0 : Int)) =
                                                                          ToBitsD x.fst) ∧
                                                                  True) ∧
                                                                True) ∧
                                                            True) ∧
                                                      True) ∧
                                                  (((0 : Int) ≤ (0 : Int) ∧ (0 : Int) < (↑(List.length x.fst) : Int)) ∧
                                                      (((0 : Nat) < (1 : Nat) ∧
                                                            ((0 : Nat) + List.length (List.drop (1 : Nat) x.fst)) * (1 : Nat) ≤ (140737488355328 : Nat) ∧
                                                              (0 : Nat) + List.length (List.drop (1 : Nat) x.fst) ≤ (9223372036854775807 : Nat) ∧
                                                                (([] ++ List.drop (1 : Nat) x.fst, IntKind.wrap IntKind.i64 (List.getD x.fst (0 : Nat) (Kd.dft (Kd.int IntKind.u8))), (0 : Int)) =
                                                                      ToBitsD x.fst ∧
                                                                    True) ∧
                                                                  True) ∧
                                                          (((0 : Nat) < (1 : Nat) ∧
                                                                ((0 : Nat) + List.length (List.drop (1 : Nat) x.fst)) * (1 : Nat) ≤ (140737488355328 : Nat) ∧
                                                                  (0 : Nat) + List.length (List.drop (1 : Nat) x.fst) ≤ (9223372036854775807 : Nat) ∧
                                                                    ([] ++ List.drop (1 : Nat) x.fst, IntKind.wrap IntKind.i64 (List.getD x.fst (0 : Nat) (Kd.dft (Kd.int IntKind.u8))), (0 : Int)) =
                                                                        ToBitsD x.fst ∧
                                                                      True) ∧
                                                              (((0 : Nat) < (1 : Nat) ∧
                                                                    ((0 : Nat) + List.length (List.drop (1 : Nat) x.fst)) * (1 : Nat) ≤ (140737488355328 : Nat) ∧
                                                                      (0 : Nat) + List.length (List.drop (1 : Nat) x.fst) ≤ (9223372036854775807 : Nat) ∧
                                                                        ([] ++ List.drop (1 : Nat) x.fst, IntKind.wrap IntKind.i64 (List.getD x.fst (0 : Nat) (Kd.dft (Kd.int IntKind.u8))), (0 : Int)) =
                                                                          ToBitsD x.fst) ∧
                                                                  True) ∧
                                                                True) ∧
                                                            True) ∧
                                                        ((((0 : Nat) < (1 : Nat) ∧
                                                                ((0 : Nat) + List.length (List.drop (1 : Nat) x.fst)) * (1 : Nat) ≤ (140737488355328 : Nat) ∧
                                                                  (0 : Nat) + List.length (List.drop (1 : Nat) x.fst) ≤ (9223372036854775807 : Nat) ∧
                                                                    ([] ++ List.drop (1 : Nat) x.fst, IntKind.wrap IntKind.i64 (List.getD x.fst (0 : Nat) (Kd.dft (Kd.int IntKind.u8))), (0 : Int)) =
                                                                        ToBitsD x.fst ∧
                                                                      True) ∧
                                                              (((0 : Nat) < (1 : Nat) ∧
                                                                    ((0 : Nat) + List.length (List.drop (1 : Nat) x.fst)) * (1 : Nat) ≤ (140737488355328 : Nat) ∧
                                                                      (0 : Nat) + List.length (List.drop (1 : Nat) x.fst) ≤ (9223372036854775807 : Nat) ∧
                                                                        ([] ++ List.drop (1 : Nat) x.fst, IntKind.wrap IntKind.i64 (List.getD x.fst (0 : Nat) (Kd.dft (Kd.int IntKind.u8))), (0 : Int)) =
                                                                          ToBitsD x.fst) ∧
                                                                  True) ∧
                                                                True) ∧
                                                            ((((0 : Nat) < (1 : Nat) ∧
                                                                    ((0 : Nat) + List.length (List.drop (1 : Nat) x.fst)) * (1 : Nat) ≤ (140737488355328 : Nat) ∧
                                                                      (0 : Nat) + List.length (List.drop (1 : Nat) x.fst) ≤ (9223372036854775807 : Nat) ∧
                                                                        ([] ++ List.drop (1 : Nat) x.fst, IntKind.wrap IntKind.i64 (List.getD x.fst (0 : Nat) (Kd.dft (Kd.int IntKind.u8))), (0 : Int)) =
                                                                          ToBitsD x.fst) ∧
                                                                  True) ∧
                                                                True) ∧
                                                              True) ∧
                                                          True) ∧
                                                    True) ∧
                                              (((0 : Int) ≤ (0 : Int) ∧ (0 : Int) < (↑(List.length x.fst) : Int)) ∧
                                                  ((((0 : Int) ≤ (1 : Int) ∧ (1 : Int) ≤ (↑(List.length x.fst) : Int)) ∧
                                                        ((0 : Nat) < (1 : Nat) ∧
                                                            ((0 : Nat) + List.length (List.drop (1 : Nat) x.fst)) * (1 : Nat) ≤ (140737488355328 : Nat) ∧
                                                              (0 : Nat) + List.length (List.drop (1 : Nat) x.fst) ≤ (9223372036854775807 : Nat) ∧
                                                                (([] ++ List.drop (1 : Nat) x.fst, IntKind.wrap IntKind.i64 (List.getD x.fst (0 : Nat) (Kd.dft (Kd.int IntKind.u8))), (0 : Int)) =
                                                                      ToBitsD x.fst ∧
                                                                    True) ∧
                                                                  True) ∧
                                                          (((0 : Nat) < (1 : Nat) ∧
                                                                ((0 : Nat) + List.length (List.drop (1 : Nat) x.fst)) * (1 : Nat) ≤ (140737488355328 : Nat) ∧
                                                                  (0 : Nat) + List.length (List.drop (1 : Nat) x.fst) ≤ (9223372036854775807 : Nat) ∧
                                                                    ([] ++ List.drop (1 : Nat) x.fst, IntKind.wrap IntKind.i64 (List.getD x.fst (0 : Nat) (Kd.dft (Kd.int IntKind.u8))), (0 : Int)) =
                                                                        ToBitsD x.fst ∧
                                                                      True) ∧
                                                              (((0 : Nat) < (1 : Nat) ∧
                                                                    ((0 : Nat) + List.length (List.drop (1 : Nat) x.fst)) * (1 : Nat) ≤ (140737488355328 : Nat) ∧
                                                                      (0 : Nat) + List.length (List.drop (1 : Nat) x.fst) ≤ (9223372036854775807 : Nat) ∧
                                                                        ([] ++ List.drop (1 : Nat) x.fst, IntKind.wrap IntKind.i64 (List.getD x.fst (0 : Nat) (Kd.dft (Kd.int IntKind.u8))), (0 : Int)) =
                                                                          ToBitsD x.fst) ∧
                                                                  True) ∧
                                                                True) ∧
                                                            True) ∧
                                                      ((((0 : Int) ≤ (1 : Int) ∧ (1 : Int) ≤ (↑(List.length x.fst) : Int)) ∧
                                                            ((0 : Nat) < (1 : Nat) ∧
                                                                ((0 : Nat) + List.length (List.drop (1 : Nat) x.fst)) * (1 : Nat) ≤ (140737488355328 : Nat) ∧
                                                                  (0 : Nat) + List.length (List.drop (1 : Nat) x.fst) ≤ (9223372036854775807 : Nat) ∧
                                                                    ([] ++ List.drop (1 : Nat) x.fst, IntKind.wrap IntKind.i64 (List.getD x.fst (0 : Nat) (Kd.dft (Kd.int IntKind.u8))), (0 : Int)) =
                                                                        ToBitsD x.fst ∧
                                                                      True) ∧
                                                              (((0 : Nat) < (1 : Nat) ∧
                                                                    ((0 : Nat) + List.length (List.drop (1 : Nat) x.fst)) * (1 : Nat) ≤ (140737488355328 : Nat) ∧
                                                                      (0 : Nat) + List.length (List.drop (1 : Nat) x.fst) ≤ (9223372036854775807 : Nat) ∧
                                                                        ([] ++ List.drop (1 : Nat) x.fst, IntKind.wrap IntKind.i64 (List.getD x.fst (0 : Nat) (Kd.dft (Kd.int IntKind.u8))), (0 : Int)) =
                                                                          ToBitsD x.fst) ∧
                                                                  True) ∧
                                                                True) ∧
                                                          ((((0 : Int) ≤ (1 : Int) ∧ (1 : Int) ≤ (↑(List.length x.fst) : Int)) ∧
                                                                ((0 : Nat) < (1 : Nat) ∧
                                                                    ((0 : Nat) + List.length (List.drop (1 : Nat) x.fst)) * (1 : Nat) ≤ (140737488355328 : Nat) ∧
                                                                      (0 : Nat) + List.length (List.drop (1 : Nat) x.fst) ≤ (9223372036854775807 : Nat) ∧
                                                                        ([] ++ List.drop (1 : Nat) x.fst, IntKind.wrap IntKind.i64 (List.getD x.fst (0 : Nat) (Kd.dft (Kd.int IntKind.u8))), (0 : Int)) =
                                                                          ToBitsD x.fst) ∧
                                                                  True) ∧
                                                              True) ∧
                                                            True) ∧
                                                        True) ∧
                                                    (((0 : Int) ≤ (1 : Int) ∧ (1 : Int) ≤ (↑(List.length x.fst) : Int)) ∧
                                                        (((0 : Nat) < (1 : Nat) ∧
                                                              ((0 : Nat) + List.length (List.drop (1 : Nat) x.fst)) * (1 : Nat) ≤ (140737488355328 : Nat) ∧
                                                                (0 : Nat) + List.length (List.drop (1 : Nat) x.fst) ≤ (9223372036854775807 : Nat) ∧
                                                                  (([] ++ List.drop (1 : Nat) x.fst, IntKind.wrap IntKind.i64 (List.getD x.fst (0 : Nat) (Kd.dft (Kd.int IntKind.u8))), (0 : Int)) =
                                                                        ToBitsD x.fst ∧
                                                                      True) ∧
                                                                    True) ∧
                                                            (((0 : Nat) < (1 : Nat) ∧
                                                                  ((0 : Nat) + List.length (List.drop (1 : Nat) x.fst)) * (1 : Nat) ≤ (140737488355328 : Nat) ∧
                                                                    (0 : Nat) + List.length (List.drop (1 : Nat) x.fst) ≤ (9223372036854775807 : Nat) ∧
                                                                      ([] ++ List.drop (1 : Nat) x.fst, IntKind.wrap IntKind.i64 (List.getD x.fst (0 : Nat) (Kd.dft (Kd.int IntKind.u8))), (0 : Int)) =
                                                                          ToBitsD x.fst ∧
                                                                        True) ∧
                                                                (((0 : Nat) < (1 : Nat) ∧
                                                                      ((0 : Nat) + List.length (List.drop (1 : Nat) x.fst)) * (1 : Nat) ≤ (140737488355328 : Nat) ∧
                                                                        (0 : Nat) + List.length (List.drop (1 : Nat) x.fst) ≤ (9223372036854775807 : Nat) ∧
                                                                          ([] ++ List.drop (1 : Nat) x.fst, IntKind.wrap IntKind.i64 (List.getD x.fst (0 : Nat) (Kd.dft (Kd.int IntKind.u8))),
                                                                              (0 : Int)) =
                                                                            ToBitsD x.fst) ∧
                                                                    True) ∧
                                                                  True) ∧
                                                              True) ∧
                                                          ((((0 : Nat) < (1 : Nat) ∧
                                                                  ((0 : Nat) + List.length (List.drop (1 : Nat) x.fst)) * (1 : Nat) ≤ (140737488355328 : Nat) ∧
                                                                    (0 : Nat) + List.length (List.drop (1 : Nat) x.fst) ≤ (9223372036854775807 : Nat) ∧
                                                                      ([] ++ List.drop (1 : Nat) x.fst, IntKind.wrap IntKind.i64 (List.getD x.fst (0 : Nat) (Kd.dft (Kd.int IntKind.u8))), (0 : Int)) =
                                                                          ToBitsD x.fst ∧
                                                                        True) ∧
                                                                (((0 : Nat) < (1 : Nat) ∧
                                                                      ((0 : Nat) + List.length (List.drop (1 : Nat) x.fst)) * (1 : Nat) ≤ (140737488355328 : Nat) ∧
                                                                        (0 : Nat) + List.length (List.drop (1 : Nat) x.fst) ≤ (9223372036854775807 : Nat) ∧
                                                                          ([] ++ List.drop (1 : Nat) x.fst, IntKind.wrap IntKind.i64 (List.getD x.fst (0 : Nat) (Kd.dft (Kd.int IntKind.u8))),
                                                                              (0 : Int)) =
                                                                            ToBitsD x.fst) ∧
                                                                    True) ∧
                                                                  True) ∧
                                                              ((((0 : Nat) < (1 : Nat) ∧
                                                                      ((0 : Nat) + List.length (List.drop (1 : Nat) x.fst)) * (1 : Nat) ≤ (140737488355328 : Nat) ∧
                                                                        (0 : Nat) + List.length (List.drop (1 : Nat) x.fst) ≤ (9223372036854775807 : Nat) ∧
                                                                          ([] ++ List.drop (1 : Nat) x.fst, IntKind.wrap IntKind.i64 (List.getD x.fst (0 : Nat) (Kd.dft (Kd.int IntKind.u8))),
                                                                              (0 : Int)) =
                                                                            ToBitsD x.fst) ∧
                                                                    True) ∧
                                                                  True) ∧
                                                                True) ∧
                                                            True) ∧
                                                      (((((0 : Int) ≤ (1 : Int) ∧ (1 : Int) ≤ (↑(List.length x.fst) : Int)) ∧
                                                              ((0 : Nat) < (1 : Nat) ∧
                                                                  ((0 : Nat) + List.length (List.drop (1 : Nat) x.fst)) * (1 : Nat) ≤ (140737488355328 : Nat) ∧
                                                                    (0 : Nat) + List.length (List.drop (1 : Nat) x.fst) ≤ (9223372036854775807 : Nat) ∧
                                                                      ([] ++ List.drop (1 : Nat) x.fst, IntKind.wrap IntKind.i64 (List.getD x.fst (0 : Nat) (Kd.dft (Kd.int IntKind.u8))), (0 : Int)) =
                                                                          ToBitsD x.fst ∧
                                                                        True) ∧
                                                                (((0 : Nat) < (1 : Nat) ∧
                                                                      ((0 : Nat) + List.length (List.drop (1 : Nat) x.fst)) * (1 : Nat) ≤ (140737488355328 : Nat) ∧
                                                                        (0 : Nat) + List.length (List.drop (1 : Nat) x.fst) ≤ (9223372036854775807 : Nat) ∧
                                                                          ([] ++ List.drop (1 : Nat) x.fst, IntKind.wrap IntKind.i64 (List.getD x.fst (0 : Nat) (Kd.dft (Kd.int IntKind.u8))),
                                                                              (0 : Int)) =
                                                                            ToBitsD x.fst) ∧
                                                                    True) ∧
                                                                  True) ∧
                                                            ((((0 : Int) ≤ (1 : Int) ∧ (1 : Int) ≤ (↑(List.length x.fst) : Int)) ∧
                                                                  ((0 : Nat) < (1 : Nat) ∧
                                                                      ((0 : Nat) + List.length (List.drop (1 : Nat) x.fst)) * (1 : Nat) ≤ (140737488355328 : Nat) ∧
                                                                        (0 : Nat) + List.length (List.drop (1 : Nat) x.fst) ≤ (9223372036854775807 : Nat) ∧
                                                                          ([] ++ List.drop (1 : Nat) x.fst, IntKind.wrap IntKind.i64 (List.getD x.fst (0 : Nat) (Kd.dft (Kd.int IntKind.u8))),
                                                                              (0 : Int)) =
                                                                            ToBitsD x.fst) ∧
                                                                    True) ∧
                                                                True) ∧
                                                              True) ∧
                                                          (((0 : Int) ≤ (1 : Int) ∧ (1 : Int) ≤ (↑(List.length x.fst) : Int)) ∧
                                                              (((0 : Nat) < (1 : Nat) ∧
                                                                    ((0 : Nat) + List.length (List.drop (1 : Nat) x.fst)) * (1 : Nat) ≤ (140737488355328 : Nat) ∧
                                                                      (0 : Nat) + List.length (List.drop (1 : Nat) x.fst) ≤ (9223372036854775807 : Nat) ∧
                                                                        ([] ++ List.drop (1 : Nat) x.fst, IntKind.wrap IntKind.i64 (List.getD x.fst (0 : Nat) (Kd.dft (Kd.int IntKind.u8))), (0 : Int)) =
                                                                            ToBitsD x.fst ∧
                                                                          True) ∧
                                                                  (((0 : Nat) < (1 : Nat) ∧
                                                                        ((0 : Nat) + List.length (List.drop (1 : Nat) x.fst)) * (1 : Nat) ≤ (140737488355328 : Nat) ∧
                                                                          (0 : Nat) + List.length (List.drop (1 : Nat) x.fst) ≤ (9223372036854775807 : Nat) ∧
                                                                            ([] ++ List.drop (1 : Nat) x.fst, IntKind.wrap IntKind.i64 (List.getD x.fst (0 : Nat) (Kd.dft (Kd.int IntKind.u8))),
                                                                                (0 : Int)) =
                                                                              ToBitsD x.fst) ∧
                                                                      True) ∧
                                                                    True) ∧
                                                                ((((0 : Nat) < (1 : Nat) ∧
                                                                        ((0 : Nat) + List.length (List.drop (1 : Nat) x.fst)) * (1 : Nat) ≤ (140737488355328 : Nat) ∧
                                                                          (0 : Nat) + List.length (List.drop (1 : Nat) x.fst) ≤ (9223372036854775807 : Nat) ∧
                                                                            ([] ++ List.drop (1 : Nat) x.fst, IntKind.wrap IntKind.i64 (List.getD x.fst (0 : Nat) (Kd.dft (Kd.int IntKind.u8))),
                                                                                (0 : Int)) =
                                                                              ToBitsD x.fst) ∧
                                                                      True) ∧
                                                                    True) ∧
                                                                  True) ∧
                                                            (((((0 : Int) ≤ (1 : Int) ∧ (1 : Int) ≤ (↑(List.length x.fst) : Int)) ∧
                                                                    ((0 : Nat) < (1 : Nat) ∧
                                                                        ((0 : Nat) + List.length (List.drop (1 : Nat) x.fst)) * (1 : Nat) ≤ (140737488355328 : Nat) ∧
                                                                          (0 : Nat) + List.length (List.drop (1 : Nat) x.fst) ≤ (9223372036854775807 : Nat) ∧
                                                                            ([] ++ List.drop (1 : Nat) x.fst, IntKind.wrap IntKind.i64 (List.getD x.fst (0 : Nat) (Kd.dft (Kd.int IntKind.u8))),
                                                                                (0 : Int)) =
                                                                              ToBitsD x.fst) ∧
                                                                      True) ∧
                                                                  True) ∧
                                                                (((0 : Int) ≤ (1 : Int) ∧ (1 : Int) ≤ (↑(List.length x.fst) : Int)) ∧
                                                                    (((0 : Nat) < (1 : Nat) ∧
                                                                          ((0 : Nat) + List.length (List.drop (1 : Nat) x.fst)) * (1 : Nat) ≤ (140737488355328 : Nat) ∧
                                                                            (0 : Nat) + List.length (List.drop (1 : Nat) x.fst) ≤ (9223372036854775807 : Nat) ∧
                                                                              ([] ++ List.drop (1 : Nat) x.fst, IntKind.wrap IntKind.i64 (List.getD x.fst (0 : Nat) (Kd.dft (Kd.int IntKind.u8))),
                                                                                  (0 : Int)) =
                                                                                ToBitsD x.fst) ∧
                                                                        True) ∧
                                                                      True) ∧
                                                                  True) ∧
                                                              True) ∧
                                                        True) ∧
                                                True)) ∧
                                True) ∧
                      (decide ((↑(List.length x.fst) : Int) = (0 : Int)) = !false → ([], (0 : Int), (20 : Int)) = ToBitsD x.fst)
theorem e20 : t20 = Con.vc c20 GL (mkEnv ty [(35, conSem c35)] [] [] [0, 2, 3, 4, 17]) {} Tryd.f20.ntmps Tryd.f20.results.toList (bodyOf Tryd.f20) := by kernel_rfl
theorem k20 : t20 := by
  unfold t20
  rintro ⟨l, _⟩ hx hp
  have hp : l.length ≤ 2000000 := hp
  try dsimp +instances only [dft_int, dft_sl, dft_str]
  simp only [true_and, and_true, eq_self_iff_true, implies_true, reduceCtorEq, false_implies, true_implies, decide_eq_true_eq, decide_eq_false_iff_not, beq_self_eq_true, Bool.not_eq_true', ne_eq, Decidable.not_not, List.nil_append, List.length_singleton, List.length_cons, List.length_nil, Nat.zero_add, Nat.add_zero, Nat.mul_one, and_self, beq_iff_eq, Bool.not_true, Bool.not_false, Bool.not_eq_false', Bool.cond_false_right, Bool.and_eq_true, imp_self, Bool.not_eq_true, Bool.cond_true_left, Bool.or_eq_true]
  rcases l with _ | ⟨a, r⟩
  · simp [ToBitsD]
  · have hb := head_bnd hx.1
    have hw : IntKind.wrap .i64 a = a := wrapk a (by omega) (by omega)
    have hne : ¬ ((a :: r).length : Int) = 0 := by simp; omega
    have hr : r.length ≤ 2000000 := by simp at hp; omega
    have b0 : (0 : Int) ≤ 0 ∧ 0 < ((a :: r).length : Int) := by simp
    have b1 : (0 : Int) ≤ 1 ∧ 1 ≤ ((a :: r).length : Int) := by simp; omega
    simp only [List.getD_cons_zero, List.drop_succ_cons, List.drop_zero, hw]
    refine ⟨fun h => ⟨h, b1⟩, fun h => ⟨h, b0⟩, fun h => ⟨h, h, ?_⟩, fun h => absurd h hne⟩
    rintro ⟨s, _⟩ _ es
    simp only at es ⊢
    refine ⟨fun hs => by rw [ToBitsD, if_neg (by rw [← es, hs]; decide)], fun hs => ?_⟩
    have hbb : ToBitsD (a :: r) = (r, a, 0) := by rw [ToBitsD, if_pos (by rw [← es]; exact hs)]
    rw [hbb]
    have m1 : r.length ≤ 140737488355328 := by omega
    have m2 : r.length ≤ 9223372036854775807 := by omega
    simp only [b0, b1, m1, m2, and_self, Nat.lt_add_one, true_and, and_true, show (0 : Nat) < 1 from by decide]
theorem h20 : c20.ok Tryd.prog GL 20 := con_ok (H := {}) (mkEnv_ok (gl := GL) (l := [(35, conSem c35)]) (q := []) (d := []) _ tyOk (by kernel_rfl) ⟨h35.call, trivial⟩ trivial trivial) (by kernel_rfl) (by kernel_rfl) (Eq.mp e20 k20)

def t21 : Prop :=
  ∀ (x : List Int × Unit),
    Kd.wf (Kd.sl (Kd.int IntKind.u8)) x.fst ∧ True →
      List.length x.fst ≤ (2000000 : Nat) →
        List.length x.fst ≤ (2000000 : Nat) ∧
          (∀ (y : List Int × Int × Int × Unit),
              Kd.wf (Kd.sl (Kd.int IntKind.u8)) y.fst ∧ Kd.wf (Kd.int IntKind.i64) y.snd.fst ∧ Kd.wf (Kd.int IntKind.i64) y.snd.snd.fst ∧ True →
                (y.fst, y.snd.fst, y.snd.snd.fst) = ToBitsD x.fst →
                  (decide (y.snd.snd.fst ≠ (0 : Int)) = true → ((0 : Int), y.snd.snd.fst) = ToFlagsD x.fst) ∧
                    (decide (y.snd.snd.fst ≠ (0 : Int)) = false →
                      (decide ((0 : Int) < (↑(List.length y.fst) : Int)) = true → True) ∧
                        (decide ((0 : Int) < (↑(List.length y.fst) : Int)) = true → True) ∧
                          (decide ((0 : Int) < (↑(List.length y.fst) : Int)) = true → (decide ((0 : Int) < (↑(List.length y.fst) : Int)) == true) = true ∧ True) ∧
                            (decide ((0 : Int) < (↑(List.length y.fst) : Int)) = true → (decide ((0 : Int) < (↑(List.length y.fst) : Int)) == true) = true ∧ True) ∧
                              (decide ((0 : Int) < (↑(List.length y.fst) : Int)) = true →
                                  (decide ((0 : Int) < (↑(List.length y.fst) : Int)) == true) = true ∧
                                    (decide ((0 : Int) < (↑(List.length y.fst) : Int)) == true) = true ∧
                                      ((0 : Int) ≤ IntKind.wrap IntKind.i64 ((↑(List.length y.fst) : Int) - (1 : Int)) ∧
                                          IntKind.wrap IntKind.i64 ((↑(List.length y.fst) : Int) - (1 : Int)) < (↑(List.length y.fst) : Int)) ∧
                                        True) ∧
                                (decide ((0 : Int) < (↑(List.length y.fst) : Int)) = true → (decide ((0 : Int) < (↑(List.length y.fst) : Int)) == true) = true ∧ True) ∧
                                  (decide ((0 : Int) < (↑(List.length y.fst) : Int)) = true → True) ∧
                                    (decide ((0 : Int) < (↑(List.length y.fst) : Int)) = true → (decide ((0 : Int) < (↑(List.length y.fst) : Int)) == true) = true ∧ (0 : Int) ≤ y.snd.fst ∧ True) ∧
                                      (decide ((0 : Int) < (↑(List.length y.fst) : Int)) = true →
                                          (decide ((0 : Int) < (↑(List.length y.fst) : Int)) == true) = true ∧ (decide ((0 : Int) < (↑(List.length y.fst) : Int)) == true) = true ∧ True) ∧
                                        (decide ((0 : Int) < (↑(List.length y.fst) : Int)) = true → (decide ((0 : Int) < (↑(List.length y.fst) : Int)) == true) = true ∧ True) ∧
                                          (decide ((0 : Int) < (↑(List.length y.fst) : Int)) = true → (decide ((0 : Int) < (↑(List.length y.fst) : Int)) == true) = true) ∧
                                            ((bif decide ((0 : Int) < (↑(List.length y.fst) : Int)) then
                                                    decide
                                                      (IntKind.wrap IntKind.u8
                                                          (↑(BitVec.toNat
                                                                (BitVec.ofInt (8 : Nat)
                                                                    (List.getD y.fst (Int.toNat (IntKind.wrap IntKind.i64 ((↑(List.length y.fst) : Int) - (1 : Int)))) (Kd.dft (Kd.int IntKind.u8))) &&&
                                                                  BitVec.ofInt (8 : Nat) (IntKind.wrap IntKind.u8 ((1 : Int) * (2 : Int) ^ min (Int.toNat y.snd.fst) (8 : Nat))))) :
                                                            Int) =
                                                        (0 : Int))
                                                  else false) =
                                                  true →
                                                ((0 : Int), (20 : Int)) = ToFlagsD x.fst) ∧
                                              ((bif decide ((0 : Int) < (↑(List.length y.fst) : Int)) then
                                                    decide
                                                      (IntKind.wrap IntKind.u8
                                                          (↑(BitVec.toNat
                                                                (BitVec.ofInt (8 : Nat)
                                                                    (List.getD y.fst (Int.toNat (IntKind.wrap IntKind.i64 ((↑(List.length y.fst) : Int) - (1 : Int)))) (Kd.dft (Kd.int IntKind.u8))) &&&
                                                                  BitVec.ofInt (8 : Nat) (IntKind.wrap IntKind.u8 ((1 : Int) * (2 : Int) ^ min (Int.toNat y.snd.fst) (8 : Nat))))) :
                                                            Int) =
                                                        (0 : Int))
                                                  else false) =
                                                  false →
                                                (decide ((2 : Int) < (↑(List.length y.fst) : Int)) = true → ((0 : Int), (21 : Int)) = ToFlagsD x.fst) ∧
                                                  (decide ((2 : Int) < (↑(List.length y.fst) : Int)) = false →
                                                    ∃ (I : Int × Int × Unit → Unit → Prop),
                                                      ∃ (μ : Int × Int × Unit → Unit → Nat),
                                                        ((↑(List.length y.fst) : Int) = (↑(List.length y.fst) : Int) ∧
                                                            Value.bool false = Value.bool false ∧
                                                              Value.bool false = Value.bool false ∧
                                                                Value.bool false = Value.bool false ∧
                                                                  y.snd.snd.fst = y.snd.snd.fst ∧
                                                                    y.snd.fst = y.snd.fst ∧
                                                                      (0 : Int) = (0 : Int) ∧ (0 : Int) = (0 : Int) ∧ x.fst = x.fst ∧ y.fst = y.fst ∧ I ((0 : Int), (0 : Int), ()) ()) ∧
                                                          ∀ (y_1 : Int × Int × Unit) (z : Unit),
                                                            Kd.wf (Kd.int IntKind.i64) y_1.fst ∧ Kd.wf (Kd.int IntKind.u16) y_1.snd.fst ∧ True →
                                                              True →
                                                                I y_1 z →
                                                                  (decide (y_1.fst < (↑(List.length y.fst) : Int)) = true →
                                                                      ((0 : Int) ≤ y_1.fst ∧ y_1.fst < (↑(List.length y.fst) : Int)) ∧
                                                                        (0 : Int) ≤ IntKind.wrap IntKind.i64 ((8 : Int) - IntKind.wrap IntKind.i64 ((8 : Int) * y_1.fst)) ∧
                                                                          (↑(List.length y.fst) : Int) = (↑(List.length y.fst) : Int) ∧
                                                                            Value.bool false = Value.bool false ∧
                                                                              Value.bool false = Value.bool false ∧
                                                                                Value.bool false = Value.bool false ∧
                                                                                  y.snd.snd.fst = y.snd.snd.fst ∧
                                                                                    y.snd.fst = y.snd.fst ∧
                                                                                      (0 : Int) = (0 : Int) ∧
                                                                                        (0 : Int) = (0 : Int) ∧
                                                                                          x.fst = x.fst ∧
                                                                                            y.fst = y.fst ∧
                                                                                              I
                                                                                                  (IntKind.wrap IntKind.i64 (y_1.fst + (1 : Int)),
                                                                                                    IntKind.wrap IntKind.u16
                                                                                                      (↑(BitVec.toNat
                                                                                                            (BitVec.ofInt (16 : Nat) y_1.snd.fst |||
                                                                                                              BitVec.ofInt (16 : Nat)
                                                                                                                (IntKind.wrap IntKind.u16
                                                                                                                  (IntKind.wrap IntKind.u16
                                                                                                                      (List.getD y.fst (Int.toNat y_1.fst) (Kd.dft (Kd.int IntKind.u8))) *
                                                                                                                    (2 : Int) ^
                                                                                                                      min
                                                                                                                        (Int.toNat
                                                                                                                          (IntKind.wrap IntKind.i64
                                                                                                                            ((8 : Int) - IntKind.wrap IntKind.i64 ((8 : Int) * y_1.fst))))
                                                                                                                        (16 : Nat))))) :
                                                                                                        Int),
                                                                                                    ())
                                                                                                  () ∧
                                                                                                μ
                                                                                                    (IntKind.wrap IntKind.i64 (y_1.fst + (1 : Int)),
                                                                                                      IntKind.wrap IntKind.u16
                                                                                                        (↑(BitVec.toNat
                                                                                                              (BitVec.ofInt (16 : Nat) y_1.snd.fst |||
                                                                                                                BitVec.ofInt (16 : Nat)
                                                                                                                  (IntKind.wrap IntKind.u16
                                                                                                                    (IntKind.wrap IntKind.u16
                                                                                                                        (List.getD y.fst (Int.toNat y_1.fst) (Kd.dft (Kd.int IntKind.u8))) *
                                                                                                                      (2 : Int) ^
                                                                                                                        min
                                                                                                                          (Int.toNat
                                                                                                                            (IntKind.wrap IntKind.i64
                                                                                                                              ((8 : Int) - IntKind.wrap IntKind.i64 ((8 : Int) * y_1.fst))))
                                                                                                                          (16 : Nat))))) :
                                                                                                          Int),
                                                                                                      ())
                                                                                                    () <
                                                                                                  μ y_1 z) ∧
                                                                    (decide (y_1.fst < (↑(List.length y.fst) : Int)) = false →
                                                                      True ∧
                                                                        (∀ (y : Int × Unit),
                                                                            Kd.wf (Kd.int IntKind.u16) y.fst ∧ True →
                                                                              y.fst =
                                                                                  (↑(prev (Int.toNat y_1.snd.fst / (256 : Nat)) (8 : Nat)) : Int) +
                                                                                    (256 : Int) * (↑(prev (Int.toNat y_1.snd.fst % (256 : Nat)) (8 : Nat)) : Int) →
                                                                                (y.fst, (0 : Int)) = ToFlagsD x.fst) ∧
                                                                          True))))) ∧
            True
theorem e21 : t21 = Con.vc c21 GL (mkEnv ty [(19, conSem c19), (36, conSem c36)] [] [] [0, 2, 3, 4, 5, 6, 7, 8, 9, 16, 20, 36, 40, 41, 42, 43]) {} Tryd.f21.ntmps Tryd.f21.results.toList (bodyOf Tryd.f21) := by kernel_rfl
theorem k21 : t21 := by
  unfold t21
  rintro ⟨l, _⟩ hx hp
  have hp : l.length ≤ 2000000 := hp
  try dsimp +instances only [dft_int, dft_sl, dft_str]
  simp only [true_and, and_true, eq_self_iff_true, implies_true, reduceCtorEq, false_implies, true_implies, decide_eq_true_eq, decide_eq_false_iff_not, beq_self_eq_true, Bool.not_eq_true', ne_eq, Decidable.not_not, List.nil_append, List.length_singleton, List.length_cons, List.length_nil, Nat.zero_add, Nat.add_zero, Nat.mul_one, and_self, beq_iff_eq, Bool.not_true, Bool.not_false, Bool.not_eq_false', Bool.cond_false_right, Bool.and_eq_true, imp_self, Bool.not_eq_true, Bool.cond_true_left, Bool.or_eq_true]
  refine ⟨hp, ?_⟩
  rintro ⟨bits, un, code, _⟩ hy ey
  simp only at hy ey ⊢
  have hT : ToFlagsD l = (if code ≠ 0 then (0, code) else if bits ≠ [] ∧ (bits.getLastD 0 / 2 ^ un.toNat) % 2 = 0 then (0, 20) else if 2 < bits.length then (0, 21) else (flagsD bits, 0)) := by rw [ToFlagsD, ← ey]
  refine ⟨fun h => by rw [hT, if_pos h], fun h => ?_⟩
  have hsp : FitsD bits un = true ∧ l = un :: bits := by
    rcases bits_spec ey with h1 | h1
    · exact h1.2
    · omega
  obtain ⟨h0, h7, he, hz⟩ := fits_rng hsp.1
  have hbl : bits.length ≤ 2000000 := by have := congrArg List.length hsp.2; simp at this; omega
  rw [hT, if_neg (fun hc => hc h)]
  have hw : IntKind.wrap .i64 ((bits.length : Int) - 1) = bits.length - 1 := wrapk _ (by omega) (by omega)
  have key : bits ≠ [] → (IntKind.wrap .u8 ↑(BitVec.ofInt 8 (bits.getD (IntKind.wrap .i64 ((bits.length : Int) - 1)).toNat 0) &&& BitVec.ofInt 8 (IntKind.wrap .u8 (1 * 2 ^ min un.toNat 8))).toNat = 0 ↔ (bits.getLastD 0 / 2 ^ un.toNat) % 2 = 0) := by
    intro hne
    rw [hw, show ((bits.length : Int) - 1).toNat = bits.length - 1 by omega, last_get bits hne]
    have hb := get_bnd hy.1 (bits.length - 1)
    rw [last_get bits hne] at hb
    exact and_bit _ un.toNat hb (by omega)
  have hne : 0 < (bits.length : Int) → bits ≠ [] := fun h e => by rw [e] at h; simp at h
  refine ⟨fun h => ⟨h, h, by rw [hw]; omega, by rw [hw]; omega⟩, fun h => ⟨h, h0⟩, fun h => by rw [if_pos ⟨hne h.1, (key (hne h.1)).1 h.2⟩], fun h => ?_⟩
  have hc : ¬ (bits ≠ [] ∧ (bits.getLastD 0 / 2 ^ un.toNat) % 2 = 0) := fun ⟨h1, h2⟩ => by
    have hl : 0 < bits.length := List.length_pos_iff.2 h1
    rcases Bool.and_eq_false_iff.1 h with h | h
    · exact of_decide_eq_false h (by omega)
    · exact of_decide_eq_false h ((key h1).2 h2)
  rw [if_neg hc]
  refine ⟨fun h2 => by rw [if_pos (by omega)], fun h2 => ?_⟩
  rw [if_neg (by omega)]
  rcases bits with _ | ⟨a, _ | ⟨b, _ | ⟨c, r⟩⟩⟩
  · refine ⟨fun y _ => y.1 = 0 ∧ y.2.1 = 0, fun _ _ => 0, ⟨rfl, rfl⟩, ?_⟩
    rintro ⟨i, v, _⟩ z _ ⟨h1, h3⟩
    simp only at h1 h3 ⊢
    subst h1 h3
    exact ⟨fun h => by simp at h, fun _ y _ ey => by rw [ey]; decide⟩
  · have ha := head_bnd hy.1
    refine ⟨fun y _ => (y.1 = 0 ∧ y.2.1 = 0) ∨ (y.1 = 1 ∧ y.2.1 = a * 256), fun y _ => (1 - y.1).toNat, .inl ⟨rfl, rfl⟩, ?_⟩
    rintro ⟨i, v, _⟩ z _ hI
    simp only at hI ⊢
    refine ⟨fun hlt => ?_, fun hge y _ ey => ?_⟩
    · have hi : i = 0 := by simp at hlt; omega
      have hv : v = 0 := by omega
      subst hi hv
      have e0 : ([a] : List Int).getD (0 : Int).toNat 0 = a := rfl
      rw [e0, hi_eq _ ha]
      exact ⟨by simp, by decide, .inr ⟨by decide, rfl⟩, by decide⟩
    · have hi : i = 1 := by simp at hge; omega
      have hv : v = a * 256 := by omega
      rw [ey, hv, show (a * 256).toNat / 256 = a.toNat by omega, show (a * 256).toNat % 256 = 0 by omega]
      have : prev 0 8 = 0 := by decide
      simp [flagsD, this]
  · have ha := head_bnd hy.1
    have hb := head_bnd (tail_wf hy.1)
    refine ⟨fun y _ => (y.1 = 0 ∧ y.2.1 = 0) ∨ (y.1 = 1 ∧ y.2.1 = a * 256) ∨ (y.1 = 2 ∧ y.2.1 = a * 256 + b), fun y _ => (2 - y.1).toNat, .inl ⟨rfl, rfl⟩, ?_⟩
    rintro ⟨i, v, _⟩ z _ hI
    simp only at hI ⊢
    refine ⟨fun hlt => ?_, fun hge y _ ey => ?_⟩
    · have hlt : i < 2 := by simpa using hlt
      rcases hI with ⟨hi, hv⟩ | ⟨hi, hv⟩ | ⟨hi, hv⟩
      · subst hi hv
        have e0 : ([a, b] : List Int).getD (0 : Int).toNat 0 = a := rfl
        rw [e0, hi_eq _ ha]
        exact ⟨by simp, by decide, .inr (.inl ⟨by decide, rfl⟩), by decide⟩
      · subst hi hv
        have e0 : ([a, b] : List Int).getD (1 : Int).toNat 0 = b := rfl
        rw [e0, lo_eq _ hb, or16 a b hb ha]
        exact ⟨by simp, by decide, .inr (.inr ⟨by decide, rfl⟩), by decide⟩
      · omega
    · have hge : ¬ i < 2 := by simpa using hge
      have hv : v = a * 256 + b := by omega
      rw [ey, hv, show (a * 256 + b).toNat / 256 = a.toNat by omega, show (a * 256 + b).toNat % 256 = b.toNat by omega]
      simp [flagsD]
  · simp at h2
    omega
theorem h21 : c21.ok Tryd.prog GL 21 := con_ok (H := {}) (mkEnv_ok (gl := GL) (l := [(19, conSem c19), (36, conSem c36)]) (q := []) (d := []) _ tyOk (by kernel_rfl) ⟨h19.call, h36.call, trivial⟩ trivial trivial) (by kernel_rfl) (by kernel_rfl) (Eq.mp e21 k21)

def t22 : Prop :=
  ∀ (x : List Int × Unit),
    Kd.wf (Kd.sl (Kd.int IntKind.u8)) x.fst ∧ True →
      List.length x.fst ≤ (2000000 : Nat) →
        List.length x.fst ≤ (2000000 : Nat) ∧
          (∀ (y : List Int × Int × Int × Unit),
              Kd.wf (Kd.sl (Kd.int IntKind.u8)) y.fst ∧ Kd.wf (Kd.int IntKind.i64) y.snd.fst ∧ Kd.wf (Kd.int IntKind.i64) y.snd.snd.fst ∧ True →
                (y.fst, y.snd.fst, y.snd.snd.fst) = ToBitsD x.fst →
                  (decide (y.snd.snd.fst ≠ (0 : Int)) = true → ((0 : Int), y.snd.snd.fst) = ToFlagsD x.fst) ∧
                    (decide (y.snd.snd.fst ≠ (0 : Int)) = false →
                      (decide ((0 : Int) < IntKind.wrap IntKind.i64 (IntKind.wrap IntKind.i64 ((8 : Int) * (↑(List.length y.fst) : Int)) - y.snd.fst)) = true → True) ∧
                        (decide ((0 : Int) < IntKind.wrap IntKind.i64 (IntKind.wrap IntKind.i64 ((8 : Int) * (↑(List.length y.fst) : Int)) - y.snd.fst)) = true → True) ∧
                          (decide ((0 : Int) < IntKind.wrap IntKind.i64 (IntKind.wrap IntKind.i64 ((8 : Int) * (↑(List.length y.fst) : Int)) - y.snd.fst)) = true →
                              (decide ((0 : Int) < IntKind.wrap IntKind.i64 (IntKind.wrap IntKind.i64 ((8 : Int) * (↑(List.length y.fst) : Int)) - y.snd.fst)) == true) = true ∧ True) ∧
                            (decide ((0 : Int) < IntKind.wrap IntKind.i64 (IntKind.wrap IntKind.i64 ((8 : Int) * (↑(List.length y.fst) : Int)) - y.snd.fst)) = true →
                                (decide ((0 : Int) < IntKind.wrap IntKind.i64 (IntKind.wrap IntKind.i64 ((8 : Int) * (↑(List.length y.fst) : Int)) - y.snd.fst)) == true) = true ∧ True) ∧
                              (decide ((0 : Int) < IntKind.wrap IntKind.i64 (IntKind.wrap IntKind.i64 ((8 : Int) * (↑(List.length y.fst) : Int)) - y.snd.fst)) = true →
                                  (decide ((0 : Int) < IntKind.wrap IntKind.i64 (IntKind.wrap IntKind.i64 ((8 : Int) * (↑(List.length y.fst) : Int)) - y.snd.fst)) == true) = true ∧
                                    (decide ((0 : Int) < IntKind.wrap IntKind.i64 (IntKind.wrap IntKind.i64 ((8 : Int) * (↑(List.length y.fst) : Int)) - y.snd.fst)) == true) = true ∧
                                      ((0 : Int) ≤ IntKind.wrap IntKind.i64 ((↑(List.length y.fst) : Int) - (1 : Int)) ∧
                                          IntKind.wrap IntKind.i64 ((↑(List.length y.fst) : Int) - (1 : Int)) < (↑(List.length y.fst) : Int)) ∧
                                        True) ∧
                                (decide ((0 : Int) < IntKind.wrap IntKind.i64 (IntKind.wrap IntKind.i64 ((8 : Int) * (↑(List.length y.fst) : Int)) - y.snd.fst)) = true →
                                    (decide ((0 : Int) < IntKind.wrap IntKind.i64 (IntKind.wrap IntKind.i64 ((8 : Int) * (↑(List.length y.fst) : Int)) - y.snd.fst)) == true) = true ∧ True) ∧
                                  (decide ((0 : Int) < IntKind.wrap IntKind.i64 (IntKind.wrap IntKind.i64 ((8 : Int) * (↑(List.length y.fst) : Int)) - y.snd.fst)) = true →
                                      (decide ((0 : Int) < IntKind.wrap IntKind.i64 (IntKind.wrap IntKind.i64 ((8 : Int) * (↑(List.length y.fst) : Int)) - y.snd.fst)) == true) = true ∧ True) ∧
                                    (decide ((0 : Int) < IntKind.wrap IntKind.i64 (IntKind.wrap IntKind.i64 ((8 : Int) * (↑(List.length y.fst) : Int)) - y.snd.fst)) = true → True) ∧
                                      (decide ((0 : Int) < IntKind.wrap IntKind.i64 (IntKind.wrap IntKind.i64 ((8 : Int) * (↑(List.length y.fst) : Int)) - y.snd.fst)) = true →
                                          (decide ((0 : Int) < IntKind.wrap IntKind.i64 (IntKind.wrap IntKind.i64 ((8 : Int) * (↑(List.length y.fst) : Int)) - y.snd.fst)) == true) = true ∧
                                            (decide ((0 : Int) < IntKind.wrap IntKind.i64 (IntKind.wrap IntKind.i64 ((8 : Int) * (↑(List.length y.fst) : Int)) - y.snd.fst)) == true) = true ∧
                                              (0 : Int) ≤ y.snd.fst ∧ True) ∧
                                        (decide ((0 : Int) < IntKind.wrap IntKind.i64 (IntKind.wrap IntKind.i64 ((8 : Int) * (↑(List.length y.fst) : Int)) - y.snd.fst)) = true →
                                            (decide ((0 : Int) < IntKind.wrap IntKind.i64 (IntKind.wrap IntKind.i64 ((8 : Int) * (↑(List.length y.fst) : Int)) - y.snd.fst)) == true) = true ∧
                                              (2 : Int) ≠ (0 : Int) ∧ True) ∧
                                          (decide ((0 : Int) < IntKind.wrap IntKind.i64 (IntKind.wrap IntKind.i64 ((8 : Int) * (↑(List.length y.fst) : Int)) - y.snd.fst)) = true →
                                              (decide ((0 : Int) < IntKind.wrap IntKind.i64 (IntKind.wrap IntKind.i64 ((8 : Int) * (↑(List.length y.fst) : Int)) - y.snd.fst)) == true) = true ∧ True) ∧
                                            (decide ((0 : Int) < IntKind.wrap IntKind.i64 (IntKind.wrap IntKind.i64 ((8 : Int) * (↑(List.length y.fst) : Int)) - y.snd.fst)) = true →
                                                (decide ((0 : Int) < IntKind.wrap IntKind.i64 (IntKind.wrap IntKind.i64 ((8 : Int) * (↑(List.length y.fst) : Int)) - y.snd.fst)) == true) = true) ∧
                                              ((bif decide ((0 : Int) < IntKind.wrap IntKind.i64 (IntKind.wrap IntKind.i64 ((8 : Int) * (↑(List.length y.fst) : Int)) - y.snd.fst)) then
                                                      decide
                                                        (Int.tmod
                                                            (Int.fdiv
                                                              (IntKind.wrap IntKind.i64
                                                                (List.getD y.fst (Int.toNat (IntKind.wrap IntKind.i64 ((↑(List.length y.fst) : Int) - (1 : Int)))) (Kd.dft (Kd.int IntKind.u8))))
                                                              ((2 : Int) ^ min (Int.toNat y.snd.fst) (64 : Nat)))
                                                            (2 : Int) =
                                                          (0 : Int))
                                                    else false) =
                                                    true →
                                                  ((0 : Int), (20 : Int)) = ToFlagsD x.fst) ∧
                                                ((bif decide ((0 : Int) < IntKind.wrap IntKind.i64 (IntKind.wrap IntKind.i64 ((8 : Int) * (↑(List.length y.fst) : Int)) - y.snd.fst)) then
                                                      decide
                                                        (Int.tmod
                                                            (Int.fdiv
                                                              (IntKind.wrap IntKind.i64
                                                                (List.getD y.fst (Int.toNat (IntKind.wrap IntKind.i64 ((↑(List.length y.fst) : Int) - (1 : Int)))) (Kd.dft (Kd.int IntKind.u8))))
                                                              ((2 : Int) ^ min (Int.toNat y.snd.fst) (64 : Nat)))
                                                            (2 : Int) =
                                                          (0 : Int))
                                                    else false) =
                                                    false →
                                                  (decide ((16 : Int) < IntKind.wrap IntKind.i64 (IntKind.wrap IntKind.i64 ((8 : Int) * (↑(List.length y.fst) : Int)) - y.snd.fst)) = true →
                                                      ((0 : Int), (21 : Int)) = ToFlagsD x.fst) ∧
                                                    (decide ((16 : Int) < IntKind.wrap IntKind.i64 (IntKind.wrap IntKind.i64 ((8 : Int) * (↑(List.length y.fst) : Int)) - y.snd.fst)) = false →
                                                      ∃ (I : Int × Int × Unit → Unit → Prop),
                                                        ∃ (μ : Int × Int × Unit → Unit → Nat),
                                                          (Value.bool false = Value.bool false ∧
                                                              Value.bool false = Value.bool false ∧
                                                                IntKind.wrap IntKind.i64 (IntKind.wrap IntKind.i64 ((8 : Int) * (↑(List.length y.fst) : Int)) - y.snd.fst) =
                                                                    IntKind.wrap IntKind.i64 (IntKind.wrap IntKind.i64 ((8 : Int) * (↑(List.length y.fst) : Int)) - y.snd.fst) ∧
                                                                  Value.bool false = Value.bool false ∧
                                                                    y.snd.snd.fst = y.snd.snd.fst ∧
                                                                      y.snd.fst = y.snd.fst ∧
                                                                        (0 : Int) = (0 : Int) ∧ (0 : Int) = (0 : Int) ∧ x.fst = x.fst ∧ y.fst = y.fst ∧ I ((0 : Int), (0 : Int), ()) ()) ∧
                                                            ∀ (y_1 : Int × Int × Unit) (z : Unit),
                                                              Kd.wf (Kd.int IntKind.i64) y_1.fst ∧ Kd.wf (Kd.int IntKind.u16) y_1.snd.fst ∧ True →
                                                                True →
                                                                  I y_1 z →
                                                                    (decide (y_1.fst < IntKind.wrap IntKind.i64 (IntKind.wrap IntKind.i64 ((8 : Int) * (↑(List.length y.fst) : Int)) - y.snd.fst)) =
                                                                          true →
                                                                        (8 : Int) ≠ (0 : Int) ∧
                                                                          ((0 : Int) ≤ IntKind.wrap IntKind.i64 (Int.tdiv y_1.fst (8 : Int)) ∧
                                                                              IntKind.wrap IntKind.i64 (Int.tdiv y_1.fst (8 : Int)) < (↑(List.length y.fst) : Int)) ∧
                                                                            (8 : Int) ≠ (0 : Int) ∧
                                                                              (0 : Int) ≤ IntKind.wrap IntKind.i64 ((7 : Int) - Int.tmod y_1.fst (8 : Int)) ∧
                                                                                (2 : Int) ≠ (0 : Int) ∧
                                                                                  (decide
                                                                                          (Int.tmod
                                                                                              (Int.fdiv
                                                                                                (List.getD y.fst (Int.toNat (IntKind.wrap IntKind.i64 (Int.tdiv y_1.fst (8 : Int))))
                                                                                                  (Kd.dft (Kd.int IntKind.u8)))
                                                                                                ((2 : Int) ^
                                                                                                  min (Int.toNat (IntKind.wrap IntKind.i64 ((7 : Int) - Int.tmod y_1.fst (8 : Int)))) (8 : Nat)))
                                                                                              (2 : Int) =
                                                                                            (1 : Int)) =
                                                                                        true →
                                                                                      (0 : Int) ≤ y_1.fst ∧
                                                                                        Value.bool false = Value.bool false ∧
                                                                                          Value.bool false = Value.bool false ∧
                                                                                            IntKind.wrap IntKind.i64 (IntKind.wrap IntKind.i64 ((8 : Int) * (↑(List.length y.fst) : Int)) - y.snd.fst) =
                                                                                                IntKind.wrap IntKind.i64
                                                                                                  (IntKind.wrap IntKind.i64 ((8 : Int) * (↑(List.length y.fst) : Int)) - y.snd.fst) ∧
                                                                                              Value.bool false = Value.bool false ∧
                                                                                                y.snd.snd.fst = y.snd.snd.fst ∧
                                                                                                  y.snd.fst = y.snd.fst ∧
                                                                                                    (0 : Int) = (0 : Int) ∧
                                                                                                      (0 : Int) = (0 : Int) ∧
                                                                                                        x.fst = x.fst ∧
                                                                                                          y.fst = y.fst ∧
                                                                                                            I
                                                                                                                (IntKind.wrap IntKind.i64 (y_1.fst + (1 : Int)),
                                                                                                                  IntKind.wrap IntKind.u16
                                                                                                                    (↑(BitVec.toNat
                                                                                                                          (BitVec.ofInt (16 : Nat) y_1.snd.fst |||
                                                                                                                            BitVec.ofInt (16 : Nat)
                                                                                                                              (IntKind.wrap IntKind.u16
                                                                                                                                ((1 : Int) * (2 : Int) ^ min (Int.toNat y_1.fst) (16 : Nat))))) :
                                                                                                                      Int),
                                                                                                                  ())
                                                                                                                () ∧
                                                                                                              μ
                                                                                                                  (IntKind.wrap IntKind.i64 (y_1.fst + (1 : Int)),
                                                                                                                    IntKind.wrap IntKind.u16
                                                                                                                      (↑(BitVec.toNat
                                                                                                                            (BitVec.ofInt (16 : Nat) y_1.snd.fst |||
                                                                                                                              BitVec.ofInt (16 : Nat)
                                                                                                                                (IntKind.wrap IntKind.u16
                                                                                                                                  ((1 : Int) * (2 : Int) ^ min (Int.toNat y_1.fst) (16 : Nat))))) :
                                                                                                                        Int),
                                                                                                                    ())
                                                                                                                  () <
                                                                                                                μ y_1 z) ∧
                                                                                    (decide
                                                                                          (Int.tmod
                                                                                              (Int.fdiv
                                                                                                (List.getD y.fst (Int.toNat (IntKind.wrap IntKind.i64 (Int.tdiv y_1.fst (8 : Int))))
                                                                                                  (Kd.dft (Kd.int IntKind.u8)))
                                                                                                ((2 : Int) ^
                                                                                                  min (Int.toNat (IntKind.wrap IntKind.i64 ((7 : Int) - Int.tmod y_1.fst (8 : Int)))) (8 : Nat)))
                                                                                              (2 : Int) =
                                                                                            (1 : Int)) =
                                                                                        false →
                                                                                      Value.bool false = Value.bool false ∧
                                                                                        Value.bool false = Value.bool false ∧
                                                                                          IntKind.wrap IntKind.i64 (IntKind.wrap IntKind.i64 ((8 : Int) * (↑(List.length y.fst) : Int)) - y.snd.fst) =
                                                                                              IntKind.wrap IntKind.i64 (IntKind.wrap IntKind.i64 ((8 : Int) * (↑(List.length y.fst) : Int)) - y.snd.fst) ∧
                                                                                            Value.bool false = Value.bool false ∧
                                                                                              y.snd.snd.fst = y.snd.snd.fst ∧
                                                                                                y.snd.fst = y.snd.fst ∧
                                                                                                  (0 : Int) = (0 : Int) ∧
                                                                                                    (0 : Int) = (0 : Int) ∧
                                                                                                      x.fst = x.fst ∧
                                                                                                        y.fst = y.fst ∧
                                                                                                          I (IntKind.wrap IntKind.i64 (y_1.fst + (1 : Int)), y_1.snd.fst, ()) () ∧
                                                                                                            μ (IntKind.wrap IntKind.i64 (y_1.fst + (1 : Int)), y_1.snd.fst, ()) () < μ y_1 z)) ∧
                                                                      (decide (y_1.fst < IntKind.wrap IntKind.i64 (IntKind.wrap IntKind.i64 ((8 : Int) * (↑(List.length y.fst) : Int)) - y.snd.fst)) =
                                                                          false →
                                                                        (y_1.snd.fst, (0 : Int)) = ToFlagsD x.fst))))) ∧
            True
theorem e22 : t22 = Con.vc c22 GL (mkEnv ty [(20, conSem c20)] [] [] [0, 2, 3, 4, 5, 6, 7, 8, 9, 17, 38, 40, 43, 56]) {} Tryd.f22.ntmps Tryd.f22.results.toList (bodyOf Tryd.f22) := by kernel_rfl
theorem k22 : t22 := by
  unfold t22
  rintro ⟨l, _⟩ hx hp
  have hp : l.length ≤ 2000000 := hp
  try dsimp +instances only [dft_int, dft_sl, dft_str]
  simp only [true_and, and_true, eq_self_iff_true, implies_true, reduceCtorEq, false_implies, true_implies, decide_eq_true_eq, decide_eq_false_iff_not, beq_self_eq_true, Bool.not_eq_true', ne_eq, Decidable.not_not, List.nil_append, List.length_singleton, List.length_cons, List.length_nil, Nat.zero_add, Nat.add_zero, Nat.mul_one, and_self, beq_iff_eq, Bool.not_true, Bool.not_false, Bool.not_eq_false', Bool.cond_false_right, Bool.and_eq_true, imp_self, Bool.not_eq_true, Bool.cond_true_left, Bool.or_eq_true]
  refine ⟨hp, ?_⟩
  rintro ⟨bits, un, code, _⟩ hy ey
  simp only at hy ey ⊢
  have hT : ToFlagsD l = (if code ≠ 0 then (0, code) else if bits ≠ [] ∧ (bits.getLastD 0 / 2 ^ un.toNat) % 2 = 0 then (0, 20) else if 2 < bits.length then (0, 21) else (flagsD bits, 0)) := by rw [ToFlagsD, ← ey]
  refine ⟨fun h => by rw [hT, if_pos h], fun h => ?_⟩
  have hsp : FitsD bits un = true ∧ l = un :: bits := by
    rcases bits_spec ey with h1 | h1
    · exact h1.2
    · omega
  obtain ⟨h0, h7, he, hz⟩ := fits_rng hsp.1
  have hbl : bits.length ≤ 2000000 := by have := congrArg List.length hsp.2; simp at this; omega
  rw [hT, if_neg (fun hc => hc h)]
  have hw : IntKind.wrap .i64 ((bits.length : Int) - 1) = bits.length - 1 := wrapk _ (by omega) (by omega)
  have hN : IntKind.wrap .i64 (IntKind.wrap .i64 (8 * (bits.length : Int)) - un) = 8 * bits.length - un := by rw [wrapk (8 * (bits.length : Int)) (by omega) (by omega), wrapk _ (by omega) (by omega)]
  generalize IntKind.wrap .i64 (IntKind.wrap .i64 (8 * (bits.length : Int)) - un) = N at hN ⊢
  have key : bits ≠ [] → (((IntKind.wrap .i64 (bits.getD (IntKind.wrap .i64 ((bits.length : Int) - 1)).toNat 0)).fdiv (2 ^ min un.toNat 64)).tmod 2 = 0 ↔ (bits.getLastD 0 / 2 ^ un.toNat) % 2 = 0) := by
    intro hne
    rw [hw, show ((bits.length : Int) - 1).toNat = bits.length - 1 by omega, last_get bits hne]
    have hb := get_bnd hy.1 (bits.length - 1)
    rw [last_get bits hne] at hb
    have hpw : (0 : Int) < 2 ^ un.toNat := Int.pow_pos (by decide)
    rw [wrapk _ (by omega) (by omega), Nat.min_eq_left (by omega), Int.fdiv_eq_ediv_of_nonneg _ (by omega), Int.tmod_eq_emod_of_nonneg (Int.ediv_nonneg hb.1 (by omega))]
  have hne : 0 < N → bits ≠ [] := fun h e => by
    have := he e
    rw [e] at hN
    simp at hN
    omega
  have hpos : 0 < N → 0 < bits.length := fun h => List.length_pos_iff.2 (hne h)
  refine ⟨fun h => ⟨h, h, by rw [hw]; have := hpos h; omega, by rw [hw]; omega⟩, fun h => ⟨h, h, h0⟩, fun h => ⟨h, by decide⟩, fun h => by rw [if_pos ⟨hne h.1, (key (hne h.1)).1 h.2⟩], fun h => ?_⟩
  have hc : ¬ (bits ≠ [] ∧ (bits.getLastD 0 / 2 ^ un.toNat) % 2 = 0) := fun ⟨h1, h2⟩ => by
    have hl : 0 < bits.length := List.length_pos_iff.2 h1
    rcases Bool.and_eq_false_iff.1 h with h | h
    · exact of_decide_eq_false h (by omega)
    · exact of_decide_eq_false h ((key h1).2 h2)
  rw [if_neg hc]
  refine ⟨fun h2 => by rw [if_pos (by omega)], fun h2 => ?_⟩
  have hl2 : ¬ 2 < bits.length := by omega
  rw [if_neg hl2]
  have hN0 : 0 ≤ N := by
    by_cases hbn : bits = []
    · have := he hbn
      rw [hbn] at hN
      simp at hN
      omega
    · have := List.length_pos_iff.2 hbn
      omega
  refine ⟨fun y _ => 0 ≤ y.1 ∧ y.1 ≤ N ∧ y.2.1 = (acc bits y.1.toNat : Int), fun y _ => (N - y.1).toNat, ⟨by omega, by omega, rfl⟩, ?_⟩
  rintro ⟨i, v, _⟩ z _ ⟨h3, h4, h5⟩
  simp only at h3 h4 h5 ⊢
  obtain ⟨k, rfl⟩ : ∃ k : Nat, i = k := ⟨i.toNat, by omega⟩
  rw [Int.toNat_natCast] at h5
  refine ⟨fun hlt => ?_, fun hge => ?_⟩
  · have e1 : (k : Int).tdiv 8 = ((k / 8 : Nat) : Int) := by rw [Int.tdiv_eq_ediv_of_nonneg (by omega)]; omega
    have e2 : (k : Int).tmod 8 = ((k % 8 : Nat) : Int) := by rw [Int.tmod_eq_emod_of_nonneg (by omega)]; omega
    have w1 : IntKind.wrap .i64 ((k / 8 : Nat) : Int) = ((k / 8 : Nat) : Int) := wrapk _ (by omega) (by omega)
    have w2 : IntKind.wrap .i64 (7 - ((k % 8 : Nat) : Int)) = ((7 - k % 8 : Nat) : Int) := by rw [wrapk _ (by omega) (by omega)]; omega
    have w3 : IntKind.wrap .i64 ((k : Int) + 1) = ((k + 1 : Nat) : Int) := by rw [wrapk _ (by omega) (by omega)]; omega
    have hb := get_bnd hy.1 (k / 8)
    have hZ : ((bits.getD (IntKind.wrap .i64 ((k : Int).tdiv 8)).toNat 0).fdiv (2 ^ min (IntKind.wrap .i64 (7 - (k : Int).tmod 8)).toNat 8)).tmod 2 = (((bits.getD (k / 8) 0).toNat / 2 ^ (7 - k % 8) % 2 : Nat) : Int) := by
      rw [e1, e2, w1, w2, Int.toNat_natCast, Int.toNat_natCast, Nat.min_eq_left (by omega)]
      generalize bits.getD (k / 8) 0 = x at hb
      obtain ⟨m, rfl⟩ : ∃ m : Nat, x = m := ⟨x.toNat, by omega⟩
      have hpw : (0 : Int) < 2 ^ (7 - k % 8) := Int.pow_pos (by decide)
      rw [Int.fdiv_eq_ediv_of_nonneg _ (by omega), show (2 : Int) ^ (7 - k % 8) = ((2 ^ (7 - k % 8) : Nat) : Int) by simp, ← Int.natCast_ediv, Int.tmod_eq_emod_of_nonneg (Int.natCast_nonneg _), Int.toNat_natCast]
      omega
    rw [hZ]
    refine ⟨by decide, ⟨by rw [e1, w1]; omega, by rw [e1, w1]; omega⟩, by decide, by rw [e2, w2]; omega, by decide, fun h6 => ⟨by omega, ?_, ?_⟩, fun h6 => ⟨?_, ?_⟩⟩
    · rw [w3]
      refine ⟨by omega, by omega, ?_⟩
      rw [Int.toNat_natCast, h5, Int.toNat_natCast, or_pow _ _ (acc_lt _ _) (by omega), acc, if_pos (by omega)]
    · rw [w3]; omega
    · rw [w3]
      refine ⟨by omega, by omega, ?_⟩
      rw [Int.toNat_natCast, h5, acc, if_neg (by omega)]
      rfl
    · rw [w3]; omega
  · have hk : (k : Int) = N := by omega
    rw [h5]
    rcases bits with _ | ⟨a, _ | ⟨b, _ | ⟨c, r⟩⟩⟩
    · have := he rfl
      have hk0 : k = 0 := by simp at hN; omega
      rw [hk0]; rfl
    · have ha := head_bnd hy.1
      have hkk : k = 8 - un.toNat := by simp at hN; omega
      rw [hkk, acc_rev a un.toNat ha (by omega) (hz (by simp))]
      rfl
    · have ha := head_bnd hy.1
      have hb := head_bnd (tail_wf hy.1)
      have hkk : k = 8 + (8 - un.toNat) := by simp at hN; omega
      rw [hkk, acc_two a b _ (by omega), acc_full a ha, acc_rev b un.toNat hb (by omega) (hz (by simp))]
      rfl
    · exact absurd (by simp) hl2
theorem h22 : c22.ok Tryd.prog GL 22 := con_ok (H := {}) (mkEnv_ok (gl := GL) (l := [(20, conSem c20)]) (q := []) (d := []) _ tyOk (by kernel_rfl) ⟨h20.call, trivial⟩ trivial trivial) (by kernel_rfl) (by kernel_rfl) (Eq.mp e22 k22)

end Go.Proofs.YtgikinbkhhfgiaaDoor
