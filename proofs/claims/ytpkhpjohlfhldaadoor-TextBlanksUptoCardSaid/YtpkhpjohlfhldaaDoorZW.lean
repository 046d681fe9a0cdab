/- Walks. -/
import Derived.Test.YtpkhpjohlfhldaaDoorZA
set_option linter.unusedVariables false
set_option linter.unusedSimpArgs false
namespace Go.Proofs.YtpkhpjohlfhldaaDoor
open Go Go.Vc Go.Proofs
set_option linter.unusedVariables false
set_option linter.unusedSimpArgs false
theorem wrapK (i : Int) (h0 : -9000000000000000000 ≤ i) (h1 : i ≤ 9000000000000000000) : IntKind.wrap .i64 i = i := by rw [IntKind.wrap_i64]; omega
theorem wrapM (i : Int) (h0 : -9223372036854775808 ≤ i) (h1 : i ≤ 9223372036854775807) : IntKind.wrap .i64 i = i := by rw [IntKind.wrap_i64]; omega
theorem sumOnes {α : Type} (l : List α) : (l.map fun _ => 1).sum = l.length := by
  induction l with
  | nil => rfl
  | cons _ _ ih => simp [ih]; omega
theorem str_mem {l : List Int} (h : Kd.wf Kd.str l) : ∀ b ∈ l, 0 ≤ b ∧ b ≤ 255 := fun b hb => by
  have h2 : InR .u8 b := h.2 b hb
  simpa [InR, IntKind.min, IntKind.max, IntKind.signed, IntKind.bits] using h2
theorem str_get {l : List Int} (h : Kd.wf Kd.str l) (i : Nat) : 0 ≤ l.getD i 0 ∧ l.getD i 0 ≤ 255 := by
  by_cases hi : i < l.length
  · rw [List.getD_eq_getElem?_getD, List.getElem?_eq_getElem hi]
    exact str_mem h _ (List.getElem_mem hi)
  · rw [List.getD_eq_getElem?_getD, List.getElem?_eq_none (by omega)]
    decide
theorem getD_drop (l : List Int) (i j : Nat) : (l.drop i).getD j 0 = l.getD (i + j) 0 := by
  rw [List.getD_eq_getElem?_getD, List.getElem?_drop, ← List.getD_eq_getElem?_getD]
theorem bs_nil : bs { data := #[] } = ([] : List Int) := rfl
theorem udec_w (l : List Int) (i : Nat) (h : i < l.length) : 1 ≤ (udec l i).2 ∧ (udec l i).2 ≤ 4 ∧ i + (udec l i).2 ≤ l.length := by
  unfold udec Lib.decodeN
  generalize (l.getD i 0).toNat = a
  generalize (l.getD (i + 1) 0).toNat = b
  generalize (l.getD (i + 2) 0).toNat = c
  generalize (l.getD (i + 3) 0).toNat = d
  repeat' split
  all_goals (simp only []; omega)
theorem udec_ascii (l : List Int) (i : Nat) (h : (l.getD i 0).toNat < 128) : udec l i = ((l.getD i 0).toNat, 1) := by
  unfold udec Lib.decodeN
  rw [if_pos h]
theorem udec_drop (l : List Int) (i : Nat) : udec (l.drop i) 0 = udec l i := by
  unfold udec
  rw [getD_drop, getD_drop, getD_drop, getD_drop, List.length_drop]
  rfl
theorem dec_drop (l : List Int) (i : Nat) (h : i < l.length) : decD (l.drop i) = (((udec l i).1 : Int), ((udec l i).2 : Int)) := by
  rw [decD, if_neg (fun e => by have := congrArg List.length e; simp at this; omega), udec_drop]
theorem vld_step {l : List Int} {i : Nat} (h : i < l.length) (h2 : chw l i ≠ 0) : vld l i = vld l (i + chw l i) := by
  rw [vld, dif_pos ⟨h, h2⟩]
theorem vld_stop {l : List Int} {i : Nat} (h : ¬ (i < l.length ∧ chw l i ≠ 0)) : vld l i = i := by
  rw [vld, dif_neg h]
theorem chw_le (l : List Int) (i : Nat) (h : i < l.length) : i + chw l i ≤ l.length := by
  have := udec_w l i h
  unfold chw
  split <;> omega
theorem all_get (p : Int → Bool) (l : List Int) (h : ∀ j, j < l.length → p (l.getD j 0) = true) : l.all p = true := by
  rw [List.all_eq_true]
  intro x hx
  obtain ⟨j, hj, e⟩ := List.getElem_of_mem hx
  have := h j hj
  rw [List.getD_eq_getElem?_getD, List.getElem?_eq_getElem hj] at this
  rw [← e]; exact this
theorem all_not (p : Int → Bool) (l : List Int) (i : Nat) (hi : i < l.length) (h : p (l.getD i 0) = false) : l.all p = false := by
  rw [List.all_eq_false]
  refine ⟨l[i], List.getElem_mem hi, ?_⟩
  rw [List.getD_eq_getElem?_getD, List.getElem?_eq_getElem hi] at h
  simpa using h
theorem prints_low {c : Int} (h : printsD c = true) : c < 128 := by
  simp [printsD] at h
  omega
theorem vld_a : vld [97] 0 = 1 := by
  have h : chw [97] 0 = 1 := by decide
  rw [vld_step (by decide) (by rw [h]; decide), h, vld_stop (by decide)]
theorem drop_cons (l : List Int) (n : Nat) (h : n < l.length) : l.drop n = l.getD n 0 :: l.drop (n + 1) := by
  rw [List.drop_eq_getElem_cons h, List.getD_eq_getElem?_getD, List.getElem?_eq_getElem h]
  rfl
theorem take_snoc (l : List Int) (n : Nat) (h : n < l.length) : l.take (n + 1) = l.take n ++ [l.getD n 0] := by
  rw [List.take_add_one, List.getD_eq_getElem?_getD, List.getElem?_eq_getElem h]
  rfl
theorem words_end (cur : List Int) : wordsA cur [] = if cur = [] then [] else [cur] := rfl
theorem words_sp (cur l : List Int) : wordsA cur (32 :: l) = (if cur = [] then [] else [cur]) ++ wordsA [] l := by rw [wordsA, if_pos rfl]
theorem words_ch (cur l : List Int) (c : Int) (h : c ≠ 32) : wordsA cur (c :: l) = wordsA (cur ++ [c]) l := by rw [wordsA, if_neg h]
theorem small_idem (c : Int) : smallD (smallD c) = smallD c := by
  unfold smallD
  by_cases h : 65 ≤ c ∧ c ≤ 90
  · rw [if_pos h, if_neg (by omega)]
  · rw [if_neg h, if_neg h]
theorem small_sp {c : Int} (h : c ≠ 32) : smallD c ≠ 32 := by
  unfold smallD
  split <;> omega
def good (w : List Int) : Prop := w ≠ [] ∧ ∀ c ∈ w, c ≠ 32
theorem words_good : ∀ (l cur : List Int), (∀ c ∈ cur, c ≠ 32) → ∀ w ∈ wordsA cur l, good w
  | [], cur, hc, w, hw => by
    rw [words_end] at hw
    split at hw
    · cases hw
    · rename_i h
      rw [List.mem_singleton] at hw
      subst hw
      exact ⟨h, hc⟩
  | c :: l, cur, hc, w, hw => by
    by_cases h : c = 32
    · subst h
      rw [words_sp, List.mem_append] at hw
      rcases hw with hw | hw
      · split at hw
        · cases hw
        · rename_i h
          rw [List.mem_singleton] at hw
          subst hw
          exact ⟨h, hc⟩
      · exact words_good l [] (fun c hc => by cases hc) w hw
    · rw [words_ch _ _ _ h] at hw
      refine words_good l _ (fun x hx => ?_) w hw
      rcases List.mem_append.1 hx with hx | hx
      · exact hc x hx
      · rw [List.mem_singleton] at hx; rw [hx]; exact h
theorem words_app : ∀ (w cur r : List Int), (∀ c ∈ w, c ≠ 32) → wordsA cur (w ++ r) = wordsA (cur ++ w) r
  | [], cur, r, _ => by simp
  | c :: w, cur, r, h => by
    rw [List.cons_append, words_ch _ _ _ (h c (by simp)), words_app w _ r (fun x hx => h x (List.mem_cons_of_mem _ hx))]
    simp
def tailW (ws : List (List Int)) : List Int := ws.flatMap fun w => 32 :: w.map smallD
theorem join_tail : ∀ (ws : List (List Int)) (b : List Int), b ≠ [] → joinF b ws = b ++ tailW ws
  | [], b, _ => by simp [joinF, tailW]
  | w :: ws, b, h => by
    rw [joinF, if_neg h, join_tail ws _ (by simp [h])]
    simp [tailW]
theorem good_map {w : List Int} (h : good w) : good (w.map smallD) := ⟨by simp [h.1], fun c hc => by
  obtain ⟨x, hx, rfl⟩ := List.mem_map.1 hc
  exact small_sp (h.2 x hx)⟩
theorem words_tail : ∀ (ws : List (List Int)) (cur : List Int), cur ≠ [] → (∀ w ∈ ws, good w) → wordsA cur (tailW ws) = cur :: ws.map (List.map smallD)
  | [], cur, h, _ => by
    show wordsA cur [] = _
    rw [words_end, if_neg h]; rfl
  | w :: ws, cur, h, hg => by
    have hw := good_map (hg w (by simp))
    have e : tailW (w :: ws) = 32 :: (w.map smallD ++ tailW ws) := by simp [tailW]
    rw [e, words_sp, if_neg h, words_app _ _ _ hw.2, List.nil_append, words_tail ws _ hw.1 (fun x hx => hg x (List.mem_cons_of_mem _ hx))]
    rfl
theorem fold_cons {l w : List Int} {ws : List (List Int)} (h : wordsD l = w :: ws) : foldD l = w.map smallD ++ tailW ws := by
  have hg : good w := words_good l [] (fun c hc => by cases hc) w (by rw [← wordsD, h]; simp)
  rw [foldD, h, joinF]
  simp only [List.nil_append, if_true]
  exact join_tail ws _ (good_map hg).1
theorem words_fold (l : List Int) : wordsD (foldD l) = (wordsD l).map (List.map smallD) := by
  cases h : wordsD l with
  | nil => rw [foldD, h]; rfl
  | cons w ws =>
    have hg : ∀ x ∈ w :: ws, good x := fun x hx => words_good l [] (fun c hc => by cases hc) x (by rw [← wordsD, h]; exact hx)
    have hw := good_map (hg w (by simp))
    rw [fold_cons h, wordsD, words_app _ _ _ hw.2, List.nil_append, words_tail ws _ hw.1 (fun x hx => hg x (List.mem_cons_of_mem _ hx))]
    rfl
theorem joinF_map : ∀ (ws : List (List Int)) (b : List Int), joinF b (ws.map (List.map smallD)) = joinF b ws
  | [], _ => rfl
  | w :: ws, b => by
    have e : (w.map smallD).map smallD = w.map smallD := by
      rw [List.map_map]
      exact List.map_congr_left fun c _ => small_idem c
    rw [List.map_cons, joinF, joinF, e, joinF_map ws]
theorem fold_idem (l : List Int) : foldD (foldD l) = foldD l := by
  rw [foldD, words_fold, joinF_map]
  rfl
theorem words_sum : ∀ (l cur : List Int), ((wordsA cur l).map fun w => w.length + 1).sum ≤ cur.length + l.length + 1
  | [], cur => by
    rw [words_end]
    split <;> simp
  | c :: l, cur => by
    by_cases h : c = 32
    · subst h
      have := words_sum l []
      rw [words_sp]
      split <;> simp at * <;> omega
    · have := words_sum l (cur ++ [c])
      rw [words_ch _ _ _ h]
      simp at *
      omega
theorem tailW_len : ∀ ws : List (List Int), (tailW ws).length = (ws.map fun w => w.length + 1).sum
  | [] => rfl
  | w :: ws => by
    have e : tailW (w :: ws) = 32 :: (w.map smallD ++ tailW ws) := by simp [tailW]
    have := tailW_len ws
    rw [e, List.length_cons, List.length_append, List.length_map, this, List.map_cons, List.sum_cons]
    omega
theorem fold_len (l : List Int) : (foldD l).length ≤ l.length := by
  have hs := words_sum l []
  cases h : wordsD l with
  | nil => rw [foldD, h]; simp [joinF]
  | cons w ws =>
    have hs : ((wordsD l).map fun w => w.length + 1).sum ≤ 0 + l.length + 1 := hs
    rw [h] at hs
    rw [fold_cons h, List.length_append, tailW_len]
    simp at *
    omega
theorem words_mid : ∀ (k : Nat) (cur m : List Int), 1 ≤ k → wordsA cur (List.replicate k 32 ++ m) = (if cur = [] then [] else [cur]) ++ wordsA [] m
  | 1, cur, m, _ => words_sp cur m
  | k + 2, cur, m, _ => by
    have e : List.replicate (k + 2) (32 : Int) ++ m = 32 :: (List.replicate (k + 1) 32 ++ m) := rfl
    rw [e, words_sp, words_mid (k + 1) [] m (by omega)]
    simp
theorem words_congr : ∀ (l x y cur : List Int), (∀ cur, wordsA cur x = wordsA cur y) → wordsA cur (l ++ x) = wordsA cur (l ++ y)
  | [], _, _, cur, h => h cur
  | c :: l, x, y, cur, h => by
    by_cases hc : c = 32
    · subst hc
      rw [List.cons_append, List.cons_append, words_sp, words_sp, words_congr l x y [] h]
    · rw [List.cons_append, List.cons_append, words_ch _ _ _ hc, words_ch _ _ _ hc, words_congr l x y _ h]
theorem fold_around (l : List Int) (k : Nat) (h : 1 ≤ k) : foldD (List.replicate k 32 ++ l ++ List.replicate k 32) = foldD l := by
  have e : wordsD (List.replicate k 32 ++ l ++ List.replicate k 32) = wordsD l := by
    rw [wordsD, List.append_assoc, words_mid k [] _ h]
    have e2 := words_congr l (List.replicate k 32) [] [] (fun cur => by
      have := words_mid k cur [] h
      rw [List.append_nil] at this
      rw [this, words_end, words_end]
      simp)
    rw [List.append_nil] at e2
    simp only [if_true, List.nil_append]
    exact e2
  rw [foldD, e]
  rfl
theorem fold_mid (l m : List Int) (k : Nat) (h : 1 ≤ k) : foldD (l ++ List.replicate k 32 ++ m) = foldD (l ++ [32] ++ m) := by
  have e : wordsD (l ++ List.replicate k 32 ++ m) = wordsD (l ++ [32] ++ m) := by
    rw [wordsD, wordsD, List.append_assoc, List.append_assoc]
    exact words_congr l _ _ [] (fun cur => by rw [words_mid k cur m h]; exact (words_sp cur m).symm)
  rw [foldD, e]
  rfl
theorem fold_sp (k : Nat) (h : 1 ≤ k) : foldD (List.replicate k 32) = [] := by
  have := words_mid k [] [] h
  rw [List.append_nil] at this
  rw [foldD, wordsD, this]
  rfl
theorem idx_rng : ∀ (l : List UInt8) (c : UInt8), -1 ≤ Lib.indexByte l c ∧ Lib.indexByte l c ≤ l.length
  | [], _ => by simp [Lib.indexByte]
  | b :: l, c => by
    have := idx_rng l c
    unfold Lib.indexByte
    have e : ((b :: l).length : Int) = l.length + 1 := by simp
    rw [e]
    split
    · omega
    · split <;> omega
theorem idx_eq : ∀ (l : List UInt8) (c : Int), 0 ≤ c ∧ c ≤ 255 → Lib.indexByte l c.toNat.toUInt8 = idxB (l.map fun b => (b.toNat : Int)) c
  | [], _, _ => rfl
  | b :: l, c, h => by
    have ih := idx_eq l c h
    have hr := idx_rng l c.toNat.toUInt8
    have hb : (b == c.toNat.toUInt8) = true ↔ (b.toNat : Int) = c := by
      rw [beq_iff_eq, ← UInt8.toNat_inj]
      have : (c.toNat.toUInt8).toNat = c.toNat := by simp; omega
      rw [this]
      omega
    unfold Lib.indexByte
    rw [List.map_cons, idxB, ← ih]
    by_cases h1 : (b.toNat : Int) = c
    · rw [if_pos (hb.2 h1), if_pos h1]
    · rw [if_neg (fun hh => h1 (hb.1 hh)), if_neg h1]
      by_cases h2 : Lib.indexByte l c.toNat.toUInt8 = -1
      · rw [if_pos (by simpa using h2), if_pos (by omega)]
      · rw [if_neg (by simpa using h2), if_neg (by omega)]
theorem wrap32 (i : Int) (h0 : -2147483648 ≤ i) (h1 : i ≤ 2147483647) : IntKind.wrap .i32 i = i := by
  simp [IntKind.wrap, IntKind.signed, IntKind.bits]
  omega
theorem first_get (b : Nat) (h : b < 256) : Lib.firstTab.getD b 0 = (Lib.firstT b : Int) := by
  rw [Lib.firstTab, List.getD_eq_getElem?_getD, List.getElem?_map, List.getElem?_range h]
  rfl
theorem acc_get (k : Nat) (h : k < 16) : accTab.getD k (Kd.dft (.pair U8 U8)) = ((Lib.accLo k : Int), (Lib.accHi k : Int)) := by
  rw [accTab, List.getD_eq_getElem?_getD, List.getElem?_map, List.getElem?_range h]
  rfl
theorem first_sz (b : Nat) : Lib.firstT b ≤ 241 ∧ (240 ≤ Lib.firstT b → Lib.firstT b = 240 ∨ Lib.firstT b = 241) ∧ (Lib.firstT b < 240 → 2 ≤ Lib.firstT b % 8 ∧ Lib.firstT b % 8 ≤ 4) := by
  unfold Lib.firstT
  repeat' split
  all_goals omega
theorem and_31 (b : Nat) (h : b < 256) : IntKind.wrap .u8 ↑(BitVec.ofInt 8 (b : Int) &&& BitVec.ofInt 8 31).toNat = ((b % 32 : Nat) : Int) := by
  have key : ∀ b : Fin 256, IntKind.wrap .u8 ↑(BitVec.ofInt 8 (b.val : Int) &&& BitVec.ofInt 8 31).toNat = ((b.val % 32 : Nat) : Int) := by decide +kernel
  exact key ⟨b, h⟩
theorem and_63 (b : Nat) (h : b < 256) : IntKind.wrap .u8 ↑(BitVec.ofInt 8 (b : Int) &&& BitVec.ofInt 8 63).toNat = ((b % 64 : Nat) : Int) := by
  have key : ∀ b : Fin 256, IntKind.wrap .u8 ↑(BitVec.ofInt 8 (b.val : Int) &&& BitVec.ofInt 8 63).toNat = ((b.val % 64 : Nat) : Int) := by decide +kernel
  exact key ⟨b, h⟩
theorem and_15 (b : Nat) (h : b < 256) : IntKind.wrap .u8 ↑(BitVec.ofInt 8 (b : Int) &&& BitVec.ofInt 8 15).toNat = ((b % 16 : Nat) : Int) := by
  have key : ∀ b : Fin 256, IntKind.wrap .u8 ↑(BitVec.ofInt 8 (b.val : Int) &&& BitVec.ofInt 8 15).toNat = ((b.val % 16 : Nat) : Int) := by decide +kernel
  exact key ⟨b, h⟩
theorem and_7 (b : Nat) (h : b < 256) : IntKind.wrap .u8 ↑(BitVec.ofInt 8 (b : Int) &&& BitVec.ofInt 8 7).toNat = ((b % 8 : Nat) : Int) := by
  have key : ∀ b : Fin 256, IntKind.wrap .u8 ↑(BitVec.ofInt 8 (b.val : Int) &&& BitVec.ofInt 8 7).toNat = ((b.val % 8 : Nat) : Int) := by decide +kernel
  exact key ⟨b, h⟩
theorem or_sh (x y i : Nat) (hy : y < 2 ^ i) (hx : x * 2 ^ i + y < 2147483648) : IntKind.wrap .i32 ↑(BitVec.ofInt 32 ((x * 2 ^ i : Nat) : Int) ||| BitVec.ofInt 32 (y : Int)).toNat = ((x * 2 ^ i + y : Nat) : Int) := by
  rw [BitVec.toNat_or, BitVec.toNat_ofInt, BitVec.toNat_ofInt]
  have e1 : (((x * 2 ^ i : Nat) : Int) % ((2 ^ 32 : Nat) : Int)).toNat = x <<< i := by rw [Nat.shiftLeft_eq]; omega
  have e2 : ((y : Int) % ((2 ^ 32 : Nat) : Int)).toNat = y := by omega
  rw [e1, e2, ← Nat.shiftLeft_add_eq_or_of_lt hy, Nat.shiftLeft_eq]
  exact wrap32 _ (by omega) (by omega)
theorem cast_sh (x i : Nat) : (x : Int) * 2 ^ i = ((x * 2 ^ i : Nat) : Int) := by simp
theorem or2 (x y : Nat) (hx : x ≤ 31) (hy : y < 64) : IntKind.wrap .i32 ↑(BitVec.ofInt 32 (IntKind.wrap .i32 (IntKind.wrap .i32 (x : Int) * 2 ^ 6)) ||| BitVec.ofInt 32 (IntKind.wrap .i32 (y : Int))).toNat = ((x * 64 + y : Nat) : Int) := by
  rw [wrap32 (x : Int) (by omega) (by omega), wrap32 (y : Int) (by omega) (by omega), cast_sh, wrap32 ((x * 2 ^ 6 : Nat) : Int) (by omega) (by omega), or_sh x y 6 (by omega) (by omega)]
theorem or3 (x y z : Nat) (hx : x ≤ 15) (hy : y < 64) (hz : z < 64) : IntKind.wrap .i32 ↑(BitVec.ofInt 32 (IntKind.wrap .i32 ↑(BitVec.ofInt 32 (IntKind.wrap .i32 (IntKind.wrap .i32 (x : Int) * 2 ^ 12)) ||| BitVec.ofInt 32 (IntKind.wrap .i32 (IntKind.wrap .i32 (y : Int) * 2 ^ 6))).toNat) ||| BitVec.ofInt 32 (IntKind.wrap .i32 (z : Int))).toNat = ((x * 4096 + y * 64 + z : Nat) : Int) := by
  rw [wrap32 (x : Int) (by omega) (by omega), wrap32 (y : Int) (by omega) (by omega), wrap32 (z : Int) (by omega) (by omega), cast_sh, cast_sh, wrap32 ((x * 2 ^ 12 : Nat) : Int) (by omega) (by omega), wrap32 ((y * 2 ^ 6 : Nat) : Int) (by omega) (by omega), or_sh x (y * 2 ^ 6) 12 (by omega) (by omega),
    show x * 2 ^ 12 + y * 2 ^ 6 = (x * 64 + y) * 2 ^ 6 by omega, or_sh (x * 64 + y) z 6 (by omega) (by omega)]
theorem or4 (x y z u : Nat) (hx : x ≤ 7) (hy : y < 64) (hz : z < 64) (hu : u < 64) : IntKind.wrap .i32 ↑(BitVec.ofInt 32 (IntKind.wrap .i32 ↑(BitVec.ofInt 32 (IntKind.wrap .i32 ↑(BitVec.ofInt 32 (IntKind.wrap .i32 (IntKind.wrap .i32 (x : Int) * 2 ^ 18)) ||| BitVec.ofInt 32 (IntKind.wrap .i32 (IntKind.wrap .i32 (y : Int) * 2 ^ 12))).toNat) ||| BitVec.ofInt 32 (IntKind.wrap .i32 (IntKind.wrap .i32 (z : Int) * 2 ^ 6))).toNat) ||| BitVec.ofInt 32 (IntKind.wrap .i32 (u : Int))).toNat = ((x * 262144 + y * 4096 + z * 64 + u : Nat) : Int) := by
  rw [wrap32 (x : Int) (by omega) (by omega), wrap32 (y : Int) (by omega) (by omega), wrap32 (z : Int) (by omega) (by omega), wrap32 (u : Int) (by omega) (by omega), cast_sh, cast_sh, cast_sh, wrap32 ((x * 2 ^ 18 : Nat) : Int) (by omega) (by omega), wrap32 ((y * 2 ^ 12 : Nat) : Int) (by omega) (by omega), wrap32 ((z * 2 ^ 6 : Nat) : Int) (by omega) (by omega),
    or_sh x (y * 2 ^ 12) 18 (by omega) (by omega), show x * 2 ^ 18 + y * 2 ^ 12 = (x * 64 + y) * 2 ^ 12 by omega, or_sh (x * 64 + y) (z * 2 ^ 6) 12 (by omega) (by omega),
    show (x * 64 + y) * 2 ^ 12 + z * 2 ^ 6 = ((x * 64 + y) * 64 + z) * 2 ^ 6 by omega, or_sh ((x * 64 + y) * 64 + z) u 6 (by omega) (by omega)]
theorem mask_eq (b : Nat) (h : b < 256) (hF : 240 ≤ Lib.firstT b) :
    IntKind.i32.wrap ↑(BitVec.ofInt 32 (IntKind.i32.wrap ↑(BitVec.ofInt 32 (IntKind.i32.wrap (b : Int)) &&& ~~~BitVec.ofInt 32 ((IntKind.i32.wrap (IntKind.i32.wrap (Lib.firstT b : Int) * 2 ^ 31)).fdiv (2 ^ 31))).toNat) |||
      BitVec.ofInt 32 (IntKind.i32.wrap ↑(BitVec.ofInt 32 65533 &&& BitVec.ofInt 32 ((IntKind.i32.wrap (IntKind.i32.wrap (Lib.firstT b : Int) * 2 ^ 31)).fdiv (2 ^ 31))).toNat)).toNat = if Lib.firstT b = 240 then (b : Int) else 65533 := by
  have key : ∀ b : Fin 256, 240 ≤ Lib.firstT b.val → IntKind.i32.wrap ↑(BitVec.ofInt 32 (IntKind.i32.wrap ↑(BitVec.ofInt 32 (IntKind.i32.wrap (b.val : Int)) &&& ~~~BitVec.ofInt 32 ((IntKind.i32.wrap (IntKind.i32.wrap (Lib.firstT b.val : Int) * 2 ^ 31)).fdiv (2 ^ 31))).toNat) |||
      BitVec.ofInt 32 (IntKind.i32.wrap ↑(BitVec.ofInt 32 65533 &&& BitVec.ofInt 32 ((IntKind.i32.wrap (IntKind.i32.wrap (Lib.firstT b.val : Int) * 2 ^ 31)).fdiv (2 ^ 31))).toNat)).toNat = if Lib.firstT b.val = 240 then (b.val : Int) else 65533 := by decide +kernel
  exact key ⟨b, h⟩ hF
theorem nat_of (l : List Int) (h : Kd.wf Kd.str l) (i : Nat) : ∃ b : Nat, l.getD i 0 = (b : Int) ∧ b < 256 := by
  have := str_get h i
  exact ⟨(l.getD i 0).toNat, by omega, by omega⟩
def valK (v b1 b2 b3 k : Int) : Int := if k = 1 then v else if k = 2 then 64 * v + b1 - 128 else if k = 3 then 64 * (64 * v + b1 - 128) + b2 - 128 else 64 * (64 * (64 * v + b1 - 128) + b2 - 128) + b3 - 128
theorem more_iff (l : List Int) (i n : Nat) : moreD l i n = true ↔ ∀ j, j < n → i + j < l.length ∧ 128 ≤ l.getD (i + j) 0 ∧ l.getD (i + j) 0 ≤ 191 := by
  simp only [moreD, List.all_eq_true, List.mem_range, decide_eq_true_eq]
def wid (r : Nat × Nat) : Nat := if r.1 = 65533 ∧ r.2 = 1 then 0 else r.2
theorem chw_at (l : List Int) (i : Nat) {b0 b1 b2 b3 : Nat} (e0 : l.getD i 0 = b0) (e1 : l.getD (i + 1) 0 = b1) (e2 : l.getD (i + 2) 0 = b2) (e3 : l.getD (i + 3) 0 = b3) :
    chw l i = wid (Lib.decodeN (l.length - i) b0 b1 b2 b3) := by
  unfold chw udec
  rw [e0, e1, e2, e3]
  rfl
theorem dec_low {n b0 b1 b2 b3 : Nat} (h : b0 < 128) : wid (Lib.decodeN n b0 b1 b2 b3) = 1 := by
  unfold Lib.decodeN
  rw [if_pos h, wid, if_neg (by simp only; omega)]
theorem dec_bad {n b0 b1 b2 b3 : Nat} (h : 128 ≤ b0 ∧ b0 < 192 ∨ 247 < b0 ∧ b0 < 256) : wid (Lib.decodeN n b0 b1 b2 b3) = 0 := by
  unfold Lib.decodeN
  rw [if_neg (by omega), if_neg (by omega), if_neg (by omega), if_neg (by omega)]
  rfl
theorem ite_wid {p q : Prop} [Decidable p] [Decidable q] (v m : Nat) (hm : m ≠ 1) : wid (if p then (if q then (v, m) else (65533, 1)) else (65533, 1)) = if p ∧ q then m else 0 := by
  by_cases hp : p
  · rw [if_pos hp]
    by_cases hq : q
    · rw [if_pos hq, if_pos ⟨hp, hq⟩, wid, if_neg (fun h => hm h.2)]
    · rw [if_neg hq, if_neg (fun h => hq h.2)]; rfl
  · rw [if_neg hp, if_neg (fun h => hp h.1)]; rfl
theorem dec_2 {n b0 b1 b2 b3 : Nat} (h : 192 ≤ b0 ∧ b0 < 224) : wid (Lib.decodeN n b0 b1 b2 b3) = if (b0 / 32 = 6 ∧ (1 < n ∧ b1 / 64 = 2)) ∧ b0 % 32 * 64 + b1 % 64 ≥ 128 then 2 else 0 := by
  have h4 : ¬ (b0 / 8 = 30 ∧ (1 < n ∧ b1 / 64 = 2) ∧ (2 < n ∧ b2 / 64 = 2) ∧ (3 < n ∧ b3 / 64 = 2)) := by omega
  have h3 : ¬ (b0 / 16 = 14 ∧ (1 < n ∧ b1 / 64 = 2) ∧ (2 < n ∧ b2 / 64 = 2)) := by omega
  unfold Lib.decodeN
  rw [if_neg (show ¬ b0 < 128 by omega), if_neg h3, if_neg h4]
  exact ite_wid _ 2 (by decide)
set_option maxRecDepth 100000 in
theorem dec_3 {n b0 b1 b2 b3 : Nat} (h : 224 ≤ b0 ∧ b0 < 240) : wid (Lib.decodeN n b0 b1 b2 b3) = if (b0 / 16 = 14 ∧ (1 < n ∧ b1 / 64 = 2) ∧ (2 < n ∧ b2 / 64 = 2)) ∧ b0 % 16 * 4096 + b1 % 64 * 64 + b2 % 64 ≥ 2048 ∧ (b0 % 16 * 4096 + b1 % 64 * 64 + b2 % 64 < 55296 ∨ (57344 ≤ b0 % 16 * 4096 + b1 % 64 * 64 + b2 % 64 ∧ b0 % 16 * 4096 + b1 % 64 * 64 + b2 % 64 ≤ 1114111)) then 3 else 0 := by
  have h4 : ¬ (b0 / 8 = 30 ∧ (1 < n ∧ b1 / 64 = 2) ∧ (2 < n ∧ b2 / 64 = 2) ∧ (3 < n ∧ b3 / 64 = 2)) := by omega
  have h2 : ¬ (b0 / 32 = 6 ∧ (1 < n ∧ b1 / 64 = 2)) := by omega
  unfold Lib.decodeN
  rw [if_neg (show ¬ b0 < 128 by omega), if_neg h2, if_neg h4]
  exact ite_wid _ 3 (by decide)
set_option maxRecDepth 100000 in
theorem dec_4 {n b0 b1 b2 b3 : Nat} (h : 240 ≤ b0 ∧ b0 < 248) : wid (Lib.decodeN n b0 b1 b2 b3) = if (b0 / 8 = 30 ∧ (1 < n ∧ b1 / 64 = 2) ∧ (2 < n ∧ b2 / 64 = 2) ∧ (3 < n ∧ b3 / 64 = 2)) ∧ b0 % 8 * 262144 + b1 % 64 * 4096 + b2 % 64 * 64 + b3 % 64 ≥ 65536 ∧ (b0 % 8 * 262144 + b1 % 64 * 4096 + b2 % 64 * 64 + b3 % 64 < 55296 ∨ (57344 ≤ b0 % 8 * 262144 + b1 % 64 * 4096 + b2 % 64 * 64 + b3 % 64 ∧ b0 % 8 * 262144 + b1 % 64 * 4096 + b2 % 64 * 64 + b3 % 64 ≤ 1114111)) then 4 else 0 := by
  have h3 : ¬ (b0 / 16 = 14 ∧ (1 < n ∧ b1 / 64 = 2) ∧ (2 < n ∧ b2 / 64 = 2)) := by omega
  have h2 : ¬ (b0 / 32 = 6 ∧ (1 < n ∧ b1 / 64 = 2)) := by omega
  unfold Lib.decodeN
  rw [if_neg (show ¬ b0 < 128 by omega), if_neg h2, if_neg h3]
  exact ite_wid _ 4 (by decide)
theorem chw_mid {l : List Int} (hw : Kd.wf Kd.str l) {i : Nat} (hi : i < l.length) {n : Int} (h0 : 192 ≤ l.getD i 0 ∧ l.getD i 0 ≤ 247)
    (hn : n = 1 ∧ l.getD i 0 < 224 ∨ n = 2 ∧ 224 ≤ l.getD i 0 ∧ l.getD i 0 < 240 ∨ n = 3 ∧ 240 ≤ l.getD i 0) (hm : moreD l (i + 1) n.toNat = false) : chw l i = 0 := by
  obtain ⟨b0, e0, g0⟩ := nat_of l hw i
  obtain ⟨b1, e1, g1⟩ := nat_of l hw (i + 1)
  obtain ⟨b2, e2, g2⟩ := nat_of l hw (i + 2)
  obtain ⟨b3, e3, g3⟩ := nat_of l hw (i + 3)
  have hm : ¬ ∀ j, j < n.toNat → i + 1 + j < l.length ∧ 128 ≤ l.getD (i + 1 + j) 0 ∧ l.getD (i + 1 + j) 0 ≤ 191 := fun h => by rw [(more_iff l (i + 1) n.toNat).2 h] at hm; cases hm
  rw [chw_at l i e0 e1 e2 e3]
  rw [e0] at h0 hn
  rcases hn with ⟨rfl, hn⟩ | ⟨rfl, hn⟩ | ⟨rfl, hn⟩
  · rw [dec_2 (by omega), if_neg]
    intro h
    refine hm (fun j hj => ?_)
    rw [show j = 0 by omega, Nat.add_zero, e1]
    omega
  · rw [dec_3 (by omega), if_neg]
    intro h
    refine hm (fun j hj => ?_)
    rcases (show j = 0 ∨ j = 1 by omega) with rfl | rfl
    · rw [Nat.add_zero, e1]
      omega
    · rw [show i + 1 + 1 = i + 2 by omega, e2]
      omega
  · rw [dec_4 (by omega), if_neg]
    intro h
    refine hm (fun j hj => ?_)
    rcases (show j = 0 ∨ j = 1 ∨ j = 2 by omega) with rfl | rfl | rfl
    · rw [Nat.add_zero, e1]
      omega
    · rw [show i + 1 + 1 = i + 2 by omega, e2]
      omega
    · rw [show i + 1 + 2 = i + 3 by omega, e3]
      omega
theorem chw_end {l : List Int} (hw : Kd.wf Kd.str l) {i : Nat} (hi : i < l.length) {n v0 least : Int} (h0 : 192 ≤ l.getD i 0 ∧ l.getD i 0 ≤ 247)
    (hn : n = 1 ∧ l.getD i 0 < 224 ∧ v0 = l.getD i 0 - 192 ∧ least = 128 ∨ n = 2 ∧ 224 ≤ l.getD i 0 ∧ l.getD i 0 < 240 ∧ v0 = l.getD i 0 - 224 ∧ least = 2048 ∨ n = 3 ∧ 240 ≤ l.getD i 0 ∧ v0 = l.getD i 0 - 240 ∧ least = 65536) (hm : moreD l (i + 1) n.toNat = true) :
    (chw l i : Int) = if valK v0 (l.getD (i + 1) 0) (l.getD (i + 2) 0) (l.getD (i + 3) 0) (n + 1) < least ∨ 1114111 < valK v0 (l.getD (i + 1) 0) (l.getD (i + 2) 0) (l.getD (i + 3) 0) (n + 1) ∨
      55296 ≤ valK v0 (l.getD (i + 1) 0) (l.getD (i + 2) 0) (l.getD (i + 3) 0) (n + 1) ∧ valK v0 (l.getD (i + 1) 0) (l.getD (i + 2) 0) (l.getD (i + 3) 0) (n + 1) ≤ 57343 then 0 else n + 1 := by
  obtain ⟨b0, e0, g0⟩ := nat_of l hw i
  obtain ⟨b1, e1, g1⟩ := nat_of l hw (i + 1)
  obtain ⟨b2, e2, g2⟩ := nat_of l hw (i + 2)
  obtain ⟨b3, e3, g3⟩ := nat_of l hw (i + 3)
  rw [more_iff] at hm
  rw [chw_at l i e0 e1 e2 e3, e1, e2, e3]
  rw [e0] at h0 hn
  rcases hn with ⟨rfl, hn⟩ | ⟨rfl, hn⟩ | ⟨rfl, hn⟩
  · rw [dec_2 (by omega)]
    have m0 := hm 0 (by decide)
    rw [Nat.add_zero, e1] at m0
    rw [show valK v0 b1 b2 b3 (1 + 1) = 64 * v0 + b1 - 128 from rfl]
    split <;> split <;> omega
  · rw [dec_3 (by omega)]
    have m0 := hm 0 (by decide)
    have m1 := hm 1 (by decide)
    rw [Nat.add_zero, e1] at m0
    rw [show i + 1 + 1 = i + 2 by omega, e2] at m1
    rw [show valK v0 b1 b2 b3 (2 + 1) = 64 * (64 * v0 + b1 - 128) + b2 - 128 from rfl]
    split <;> split <;> omega
  · rw [dec_4 (by omega)]
    have m0 := hm 0 (by decide)
    have m1 := hm 1 (by decide)
    have m2 := hm 2 (by decide)
    rw [Nat.add_zero, e1] at m0
    rw [show i + 1 + 1 = i + 2 by omega, e2] at m1
    rw [show i + 1 + 2 = i + 3 by omega, e3] at m2
    rw [show valK v0 b1 b2 b3 (3 + 1) = 64 * (64 * (64 * v0 + b1 - 128) + b2 - 128) + b3 - 128 from rfl]
    split <;> split <;> omega
def brk (m : List Int) : Nat := if idxB m 32 < 0 then m.length else (idxB m 32).toNat
theorem idx_ge : ∀ (m : List Int), -1 ≤ idxB m 32 ∧ idxB m 32 < m.length
  | [] => by decide
  | c :: m => by
    have := idx_ge m
    rw [idxB, List.length_cons]
    split
    · omega
    · split <;> omega
theorem brk_cons (c : Int) (m : List Int) (h : c ≠ 32) : brk (c :: m) = brk m + 1 := by
  have := idx_ge m
  by_cases h1 : idxB m 32 < 0
  · have e : idxB (c :: m) 32 = -1 := by rw [idxB, if_neg h, if_pos h1]
    rw [brk, brk, e, if_pos (by omega), if_pos h1, List.length_cons]
  · have e : idxB (c :: m) 32 = idxB m 32 + 1 := by rw [idxB, if_neg h, if_neg h1]
    rw [brk, brk, e, if_neg (by omega), if_neg h1]
    omega
theorem idx_words : ∀ (m cur : List Int), wordsA cur m = (if cur ++ m.take (brk m) = [] then [] else [cur ++ m.take (brk m)]) ++ wordsA [] (m.drop (brk m + 1))
  | [], cur => by simp [words_end]
  | c :: m, cur => by
    by_cases hc : c = 32
    · subst hc
      have e : brk (32 :: m) = 0 := by rw [brk, idxB, if_pos rfl]; rfl
      rw [e, words_sp]
      simp
    · rw [words_ch _ _ _ hc, idx_words m, brk_cons c m hc]
      simp
theorem idx_split {m : List Int} {n : Int} (h : idxB m 32 < 0 ∧ n = m.length ∨ 0 ≤ idxB m 32 ∧ n = idxB m 32) : 0 ≤ n ∧ n ≤ m.length ∧ wordsA [] m = (if n = 0 then [] else [m.take n.toNat]) ++ wordsA [] (m.drop (n.toNat + 1)) := by
  have h3 := idx_words m []
  obtain ⟨h1, h2⟩ := idx_ge m
  have e : brk m = n.toNat ∧ n ≤ m.length ∧ 0 ≤ n := by
    rw [brk]
    split <;> omega
  rw [e.1] at h3
  refine ⟨e.2.2, e.2.1, ?_⟩
  rw [h3, List.nil_append]
  congr 1
  have hl : (m.take n.toNat).length = n.toNat := by rw [List.length_take]; omega
  by_cases h0 : n = 0
  · subst h0; rfl
  · rw [if_neg h0, if_neg (fun h => by rw [h] at hl; simp at hl; omega)]
theorem take_snocA {α : Type} (l : List α) (d : α) (n : Nat) (h : n < l.length) : l.take (n + 1) = l.take n ++ [l.getD n d] := by
  rw [List.take_add_one, List.getD_eq_getElem?_getD, List.getElem?_eq_getElem h]
  rfl
theorem joinF_app : ∀ (xs ys : List (List Int)) (b : List Int), joinF b (xs ++ ys) = joinF (joinF b xs) ys
  | [], _, _ => rfl
  | x :: xs, ys, b => by rw [List.cons_append, joinF, joinF, joinF_app xs ys]
theorem joinF_len : ∀ (ws : List (List Int)) (b : List Int), b.length ≤ (joinF b ws).length
  | [], _ => Nat.le_refl _
  | w :: ws, b => by
    rw [joinF]
    have := joinF_len ws ((b ++ if b = [] then [] else [32]) ++ w.map smallD)
    simp only [List.length_append] at this
    omega
theorem joinF_ne {ws : List (List Int)} (h : ∀ w ∈ ws, good w) {n : Nat} (h0 : 0 < n) (h1 : n ≤ ws.length) : joinF [] (ws.take n) ≠ [] := by
  cases ws with
  | nil => simp at h1; omega
  | cons w ws =>
    obtain ⟨m, rfl⟩ : ∃ m, n = m + 1 := ⟨n - 1, by omega⟩
    rw [List.take_succ_cons, joinF]
    have hw := (h w (by simp)).1
    intro e
    have := joinF_len (ws.take m) (([] ++ if ([] : List Int) = [] then [] else [32]) ++ w.map smallD)
    rw [e] at this
    simp at this
    exact hw this
theorem udec_congr {l l' : List Int} {i i' : Nat} (h0 : l.getD i 0 = l'.getD i' 0) (h1 : l.getD (i + 1) 0 = l'.getD (i' + 1) 0) (h2 : l.getD (i + 2) 0 = l'.getD (i' + 2) 0) (h3 : l.getD (i + 3) 0 = l'.getD (i' + 3) 0) (hn : l.length - i = l'.length - i') : udec l i = udec l' i' := by
  unfold udec
  rw [h0, h1, h2, h3, hn]
theorem chw_congr {l l' : List Int} (hw : Kd.wf Kd.str l) (hw' : Kd.wf Kd.str l') {i i' : Nat} (h0 : chw l i ≠ 0) (hb : ∀ j, j < chw l i → l.getD (i + j) 0 = l'.getD (i' + j) 0) (hn : i' + chw l i ≤ l'.length) : chw l' i' = chw l i := by
  obtain ⟨b0, e0, g0⟩ := nat_of l hw i
  obtain ⟨b1, e1, g1⟩ := nat_of l hw (i + 1)
  obtain ⟨b2, e2, g2⟩ := nat_of l hw (i + 2)
  obtain ⟨b3, e3, g3⟩ := nat_of l hw (i + 3)
  obtain ⟨c0, f0, k0⟩ := nat_of l' hw' i'
  obtain ⟨c1, f1, k1⟩ := nat_of l' hw' (i' + 1)
  obtain ⟨c2, f2, k2⟩ := nat_of l' hw' (i' + 2)
  obtain ⟨c3, f3, k3⟩ := nat_of l' hw' (i' + 3)
  have hL := chw_at l i e0 e1 e2 e3
  have hR := chw_at l' i' f0 f1 f2 f3
  have q0 := hb 0 (by omega)
  rw [Nat.add_zero, Nat.add_zero, e0, f0] at q0
  have q0 : b0 = c0 := by omega
  subst q0
  by_cases a1 : b0 < 128
  · rw [hL, hR, dec_low a1, dec_low a1]
  by_cases a2 : b0 < 192 ∨ 247 < b0
  · rw [dec_bad (by omega)] at hL
    exact absurd hL h0
  by_cases a3 : b0 < 224
  · rw [dec_2 (by omega)] at hL hR
    have hk : chw l i = 2 := by
      rw [hL]; split
      · rfl
      · rename_i hc; rw [if_neg hc] at hL; exact absurd hL h0
    have q1 := hb 1 (by omega)
    rw [e1, f1] at q1
    have q1 : b1 = c1 := by omega
    subst q1
    have hc : (b0 / 32 = 6 ∧ (1 < l.length - i ∧ b1 / 64 = 2)) ∧ b0 % 32 * 64 + b1 % 64 ≥ 128 := by
      by_cases hc : (b0 / 32 = 6 ∧ (1 < l.length - i ∧ b1 / 64 = 2)) ∧ b0 % 32 * 64 + b1 % 64 ≥ 128
      · exact hc
      · rw [if_neg hc] at hL; omega
    rw [hR, if_pos ⟨⟨hc.1.1, by omega, hc.1.2.2⟩, hc.2⟩, hk]
  by_cases a4 : b0 < 240
  · rw [dec_3 (by omega)] at hL hR
    split at hL
    case isFalse => exact absurd hL h0
    rename_i hc
    have q1 := hb 1 (by omega)
    have q2 := hb 2 (by omega)
    rw [e1, f1] at q1
    rw [e2, f2] at q2
    have q1 : b1 = c1 := by omega
    have q2 : b2 = c2 := by omega
    subst q1 q2
    rw [hR, if_pos ⟨⟨hc.1.1, ⟨by omega, hc.1.2.1.2⟩, by omega, hc.1.2.2.2⟩, hc.2⟩, hL]
  · rw [dec_4 (by omega)] at hL hR
    split at hL
    case isFalse => exact absurd hL h0
    rename_i hc
    have q1 := hb 1 (by omega)
    have q2 := hb 2 (by omega)
    have q3 := hb 3 (by omega)
    rw [e1, f1] at q1
    rw [e2, f2] at q2
    rw [e3, f3] at q3
    have q1 : b1 = c1 := by omega
    have q2 : b2 = c2 := by omega
    have q3 : b3 = c3 := by omega
    subst q1 q2 q3
    rw [hR, if_pos ⟨⟨hc.1.1, ⟨by omega, hc.1.2.1.2⟩, ⟨by omega, hc.1.2.2.1.2⟩, by omega, hc.1.2.2.2.2⟩, hc.2⟩, hL]
theorem vld_bd (l : List Int) : ∀ (n i : Nat), l.length - i ≤ n → i ≤ l.length → i ≤ vld l i ∧ vld l i ≤ l.length
  | 0, i, h, h1 => by
    rw [vld_stop (by omega)]
    omega
  | n + 1, i, h, h1 => by
    by_cases hc : i < l.length ∧ chw l i ≠ 0
    · rw [vld_step hc.1 hc.2]
      have := chw_le l i hc.1
      have := vld_bd l n (i + chw l i) (by omega) (by omega)
      omega
    · rw [vld_stop hc]
      omega
theorem vld_shift (p m : List Int) : ∀ (n i : Nat), m.length - i ≤ n → vld (p ++ m) (p.length + i) = p.length + vld m i := by
  have hg : ∀ j, (p ++ m).getD (p.length + j) 0 = m.getD j 0 := fun j => by
    rw [List.getD_eq_getElem?_getD, List.getElem?_append_right (by omega), Nat.add_sub_cancel_left, List.getD_eq_getElem?_getD]
  have hc : ∀ i, chw (p ++ m) (p.length + i) = chw m i := fun i => by
    unfold chw
    rw [udec_congr (l := p ++ m) (l' := m) (i := p.length + i) (i' := i) (hg i) (hg (i + 1)) (hg (i + 2)) (hg (i + 3)) (by rw [List.length_append]; omega)]
  have hl : (p ++ m).length = p.length + m.length := List.length_append
  intro n
  induction n with
  | zero =>
    intro i h
    rw [vld_stop (by omega), vld_stop (by omega)]
  | succ n ih =>
    intro i h
    by_cases h2 : i < m.length ∧ chw m i ≠ 0
    · have := chw_le m i h2.1
      rw [vld_step (l := p ++ m) (i := p.length + i) (by omega) (by rw [hc]; exact h2.2), vld_step h2.1 h2.2, hc, Nat.add_assoc, ih _ (by omega)]
    · rw [vld_stop (l := p ++ m) (i := p.length + i) (by rw [hc]; omega), vld_stop h2]
theorem vld_pre {l m : List Int} (hw : Kd.wf Kd.str l) (hw2 : Kd.wf Kd.str (l.take (vld l 0) ++ m)) : ∀ (n i : Nat), vld l 0 - i ≤ n → i ≤ l.length → vld l i = vld l 0 → vld (l.take (vld l 0) ++ m) i = vld (l.take (vld l 0) ++ m) (vld l 0) := by
  have hb := vld_bd l _ 0 (Nat.le_refl _) (by omega)
  generalize vld l 0 = N at *
  intro n
  induction n with
  | zero =>
    intro i h hi e
    have := vld_bd l _ i (Nat.le_refl _) hi
    rw [show i = N by omega]
  | succ n ih =>
    intro i h hi e
    by_cases hc : i < l.length ∧ chw l i ≠ 0
    · have h3 := chw_le l i hc.1
      have h4 := vld_bd l _ (i + chw l i) (Nat.le_refl _) h3
      have e2 := vld_step hc.1 hc.2
      have htl : (l.take N).length = N := by rw [List.length_take]; omega
      have e3 : chw (l.take N ++ m) i = chw l i := by
        refine chw_congr hw hw2 hc.2 (fun j hj => ?_) (by rw [List.length_append]; omega)
        rw [List.getD_eq_getElem?_getD, List.getD_eq_getElem?_getD, List.getElem?_append_left (by omega), List.getElem?_take_of_lt (by omega)]
      rw [vld_step (l := l.take N ++ m) (i := i) (by rw [List.length_append]; omega) (by rw [e3]; exact hc.2), e3]
      exact ih _ (by omega) h3 (by omega)
    · rw [vld_stop hc] at e
      rw [e]
theorem vld_app {l m : List Int} (hw : Kd.wf Kd.str l) (hw2 : Kd.wf Kd.str (l.take (vld l 0) ++ m)) : vld (l.take (vld l 0) ++ m) 0 = vld l 0 + vld m 0 := by
  have hb := vld_bd l _ 0 (Nat.le_refl _) (by omega)
  have htl : (l.take (vld l 0)).length = vld l 0 := by rw [List.length_take]; omega
  have := vld_shift (l.take (vld l 0)) m _ 0 (Nat.le_refl _)
  rw [htl, Nat.add_zero] at this
  rw [vld_pre hw hw2 _ 0 (Nat.le_refl _) (by omega) rfl, this]
theorem vld_ascii {l : List Int} (hw : Kd.wf Kd.str l) (h : ∀ c ∈ l, c < 128) : ∀ (n i : Nat), l.length - i ≤ n → i ≤ l.length → vld l i = l.length
  | 0, i, h1, h2 => by
    rw [vld_stop (by omega)]
    omega
  | n + 1, i, h1, h2 => by
    by_cases hi : i < l.length
    · obtain ⟨b0, e0, g0⟩ := nat_of l hw i
      obtain ⟨b1, e1, g1⟩ := nat_of l hw (i + 1)
      obtain ⟨b2, e2, g2⟩ := nat_of l hw (i + 2)
      obtain ⟨b3, e3, g3⟩ := nat_of l hw (i + 3)
      have h3 : l.getD i 0 < 128 := by
        rw [List.getD_eq_getElem?_getD, List.getElem?_eq_getElem hi]
        exact h _ (List.getElem_mem hi)
      have e : chw l i = 1 := by rw [chw_at l i e0 e1 e2 e3, dec_low (by omega)]
      rw [vld_step hi (by omega), e]
      exact vld_ascii hw h n (i + 1) (by omega) (by omega)
    · rw [vld_stop (by omega)]
      omega
theorem may_19 {l : List Int} (h : mayD 19 l = true) : mayD 22 l = true := by
  unfold mayD at h ⊢
  by_cases hl : 4096 < l.length
  · rw [if_pos hl] at h; cases h
  · rw [if_neg hl, if_neg (by decide), if_pos rfl] at h
    rw [if_neg hl, if_neg (by decide), if_neg (by decide), if_pos rfl]
    rw [List.all_eq_true] at h ⊢
    exact fun c hc => decide_eq_true (prints_low (h c hc))
theorem may_22 {l : List Int} (hw : Kd.wf Kd.str l) (h : mayD 22 l = true) : vld l 0 = l.length ∧ mayD 12 l = true := by
  unfold mayD at h ⊢
  by_cases hl : 4096 < l.length
  · rw [if_pos hl] at h; cases h
  · rw [if_neg hl, if_neg (by decide), if_neg (by decide), if_pos rfl] at h
    rw [if_neg hl, if_pos rfl]
    rw [List.all_eq_true] at h
    have := vld_ascii hw (fun c hc => of_decide_eq_true (h c hc)) _ 0 (Nat.le_refl _) (by omega)
    exact ⟨this, decide_eq_true this⟩
theorem may_12 {l : List Int} (h : mayD 12 l = true) : vld l 0 = l.length := by
  unfold mayD at h
  by_cases hl : 4096 < l.length
  · rw [if_pos hl] at h; cases h
  · rw [if_neg hl, if_pos rfl] at h
    exact of_decide_eq_true h
theorem kind_ok {l : List Int} (hw : Kd.wf Kd.str l) (h : (kindD l).2 = 0) : mayD (kindD l).1 l = true ∧ vld l 0 = l.length := by
  unfold kindD at h ⊢
  by_cases h1 : mayD 19 l = true
  · rw [if_pos h1]
    exact ⟨h1, (may_22 hw (may_19 h1)).1⟩
  · rw [if_neg h1] at h ⊢
    by_cases h2 : mayD 12 l = true
    · rw [if_pos h2]
      exact ⟨h2, may_12 h2⟩
    · rw [if_neg h2] at h; cases h
def t30 : Prop :=
  ∀ (x : List Int × Unit),
    Kd.wf Kd.str x.fst ∧ True →
      True →
        (decide ((↑(List.length x.fst) : Int) < (1 : Int)) = true → (65533 : Int) = (decD x.fst).fst ∧ (0 : Int) = (decD x.fst).snd) ∧
          (decide ((↑(List.length x.fst) : Int) < (1 : Int)) = false →
            ((0 : Int) ≤ (0 : Int) ∧ (0 : Int) < (↑(List.length x.fst) : Int)) ∧
              ((0 : Int) ≤ List.getD x.fst (0 : Nat) (0 : Int) ∧ List.getD x.fst (0 : Nat) (0 : Int) < (↑(256 : Nat) : Int) ∧ List.getD x.fst (0 : Nat) (0 : Int) < (↑(256 : Nat) : Int)) ∧
                (decide ((240 : Int) ≤ List.getD Lib.firstTab (Int.toNat (List.getD x.fst (0 : Nat) (0 : Int))) (Kd.dft (Kd.int IntKind.u8))) = true →
                    (0 : Int) ≤ (31 : Int) ∧
                      (0 : Int) ≤ (31 : Int) ∧
                        ((0 : Int) ≤ (0 : Int) ∧ (0 : Int) < (↑(List.length x.fst) : Int)) ∧
                          IntKind.wrap IntKind.i32
                                (↑(BitVec.toNat
                                      (BitVec.ofInt (32 : Nat)
                                          (IntKind.wrap IntKind.i32
                                            (↑(BitVec.toNat
                                                  (BitVec.ofInt (32 : Nat) (IntKind.wrap IntKind.i32 (List.getD x.fst (0 : Nat) (0 : Int))) &&&
                                                    ~~~BitVec.ofInt (32 : Nat)
                                                        (Int.fdiv
                                                          (IntKind.wrap IntKind.i32
                                                            (IntKind.wrap IntKind.i32 (List.getD Lib.firstTab (Int.toNat (List.getD x.fst (0 : Nat) (0 : Int))) (Kd.dft (Kd.int IntKind.u8))) *
                                                              (2 : Int) ^ (31 : Nat)))
                                                          ((2 : Int) ^ (31 : Nat))))) :
                                              Int)) |||
                                        BitVec.ofInt (32 : Nat)
                                          (IntKind.wrap IntKind.i32
                                            (↑(BitVec.toNat
                                                  (BitVec.ofInt (32 : Nat) (65533 : Int) &&&
                                                    BitVec.ofInt (32 : Nat)
                                                      (Int.fdiv
                                                        (IntKind.wrap IntKind.i32
                                                          (IntKind.wrap IntKind.i32 (List.getD Lib.firstTab (Int.toNat (List.getD x.fst (0 : Nat) (0 : Int))) (Kd.dft (Kd.int IntKind.u8))) *
                                                            (2 : Int) ^ (31 : Nat)))
                                                        ((2 : Int) ^ (31 : Nat))))) :
                                              Int)))) :
                                  Int) =
                              (decD x.fst).fst ∧
                            (1 : Int) = (decD x.fst).snd) ∧
                  (decide ((240 : Int) ≤ List.getD Lib.firstTab (Int.toNat (List.getD x.fst (0 : Nat) (0 : Int))) (Kd.dft (Kd.int IntKind.u8))) = false →
                    (0 : Int) ≤ (4 : Int) ∧
                      ((0 : Int) ≤ Int.fdiv (List.getD Lib.firstTab (Int.toNat (List.getD x.fst (0 : Nat) (0 : Int))) (Kd.dft (Kd.int IntKind.u8))) ((2 : Int) ^ (4 : Nat)) ∧
                          Int.fdiv (List.getD Lib.firstTab (Int.toNat (List.getD x.fst (0 : Nat) (0 : Int))) (Kd.dft (Kd.int IntKind.u8))) ((2 : Int) ^ (4 : Nat)) < (↑(16 : Nat) : Int) ∧
                            Int.fdiv (List.getD Lib.firstTab (Int.toNat (List.getD x.fst (0 : Nat) (0 : Int))) (Kd.dft (Kd.int IntKind.u8))) ((2 : Int) ^ (4 : Nat)) < (↑(16 : Nat) : Int)) ∧
                        (2 : Nat) ≤ (65536 : Nat) ∧
                          (decide
                                  ((↑(List.length x.fst) : Int) <
                                    IntKind.wrap IntKind.i64
                                      (IntKind.wrap IntKind.u8
                                        (↑(BitVec.toNat
                                              (BitVec.ofInt (8 : Nat) (List.getD Lib.firstTab (Int.toNat (List.getD x.fst (0 : Nat) (0 : Int))) (Kd.dft (Kd.int IntKind.u8))) &&&
                                                BitVec.ofInt (8 : Nat) (7 : Int))) :
                                          Int))) =
                                true →
                              (65533 : Int) = (decD x.fst).fst ∧ (1 : Int) = (decD x.fst).snd) ∧
                            (decide
                                  ((↑(List.length x.fst) : Int) <
                                    IntKind.wrap IntKind.i64
                                      (IntKind.wrap IntKind.u8
                                        (↑(BitVec.toNat
                                              (BitVec.ofInt (8 : Nat) (List.getD Lib.firstTab (Int.toNat (List.getD x.fst (0 : Nat) (0 : Int))) (Kd.dft (Kd.int IntKind.u8))) &&&
                                                BitVec.ofInt (8 : Nat) (7 : Int))) :
                                          Int))) =
                                false →
                              ((0 : Int) ≤ (1 : Int) ∧ (1 : Int) < (↑(List.length x.fst) : Int)) ∧
                                (decide
                                        (List.getD x.fst (1 : Nat) (0 : Int) <
                                          (List.getD accTab
                                              (Int.toNat (Int.fdiv (List.getD Lib.firstTab (Int.toNat (List.getD x.fst (0 : Nat) (0 : Int))) (Kd.dft (Kd.int IntKind.u8))) ((2 : Int) ^ (4 : Nat))))
                                              (Kd.dft (Kd.pair (Kd.int IntKind.u8) (Kd.int IntKind.u8)))).fst) =
                                      false →
                                    True) ∧
                                  (decide
                                          (List.getD x.fst (1 : Nat) (0 : Int) <
                                            (List.getD accTab
                                                (Int.toNat (Int.fdiv (List.getD Lib.firstTab (Int.toNat (List.getD x.fst (0 : Nat) (0 : Int))) (Kd.dft (Kd.int IntKind.u8))) ((2 : Int) ^ (4 : Nat))))
                                                (Kd.dft (Kd.pair (Kd.int IntKind.u8) (Kd.int IntKind.u8)))).fst) =
                                        false →
                                      (decide
                                              (List.getD x.fst (1 : Nat) (0 : Int) <
                                                (List.getD accTab
                                                    (Int.toNat (Int.fdiv (List.getD Lib.firstTab (Int.toNat (List.getD x.fst (0 : Nat) (0 : Int))) (Kd.dft (Kd.int IntKind.u8))) ((2 : Int) ^ (4 : Nat))))
                                                    (Kd.dft (Kd.pair (Kd.int IntKind.u8) (Kd.int IntKind.u8)))).fst) ==
                                            false) =
                                          true ∧
                                        True) ∧
                                    (decide
                                            (List.getD x.fst (1 : Nat) (0 : Int) <
                                              (List.getD accTab
                                                  (Int.toNat (Int.fdiv (List.getD Lib.firstTab (Int.toNat (List.getD x.fst (0 : Nat) (0 : Int))) (Kd.dft (Kd.int IntKind.u8))) ((2 : Int) ^ (4 : Nat))))
                                                  (Kd.dft (Kd.pair (Kd.int IntKind.u8) (Kd.int IntKind.u8)))).fst) =
                                          false →
                                        True) ∧
                                      (decide
                                              (List.getD x.fst (1 : Nat) (0 : Int) <
                                                (List.getD accTab
                                                    (Int.toNat (Int.fdiv (List.getD Lib.firstTab (Int.toNat (List.getD x.fst (0 : Nat) (0 : Int))) (Kd.dft (Kd.int IntKind.u8))) ((2 : Int) ^ (4 : Nat))))
                                                    (Kd.dft (Kd.pair (Kd.int IntKind.u8) (Kd.int IntKind.u8)))).fst) =
                                            false →
                                          (decide
                                                  (List.getD x.fst (1 : Nat) (0 : Int) <
                                                    (List.getD accTab
                                                        (Int.toNat
                                                          (Int.fdiv (List.getD Lib.firstTab (Int.toNat (List.getD x.fst (0 : Nat) (0 : Int))) (Kd.dft (Kd.int IntKind.u8))) ((2 : Int) ^ (4 : Nat))))
                                                        (Kd.dft (Kd.pair (Kd.int IntKind.u8) (Kd.int IntKind.u8)))).fst) ==
                                                false) =
                                              true ∧
                                            (decide
                                                    (List.getD x.fst (1 : Nat) (0 : Int) <
                                                      (List.getD accTab
                                                          (Int.toNat
                                                            (Int.fdiv (List.getD Lib.firstTab (Int.toNat (List.getD x.fst (0 : Nat) (0 : Int))) (Kd.dft (Kd.int IntKind.u8))) ((2 : Int) ^ (4 : Nat))))
                                                          (Kd.dft (Kd.pair (Kd.int IntKind.u8) (Kd.int IntKind.u8)))).fst) ==
                                                  false) =
                                                true ∧
                                              True) ∧
                                        (decide
                                                (List.getD x.fst (1 : Nat) (0 : Int) <
                                                  (List.getD accTab
                                                      (Int.toNat
                                                        (Int.fdiv (List.getD Lib.firstTab (Int.toNat (List.getD x.fst (0 : Nat) (0 : Int))) (Kd.dft (Kd.int IntKind.u8))) ((2 : Int) ^ (4 : Nat))))
                                                      (Kd.dft (Kd.pair (Kd.int IntKind.u8) (Kd.int IntKind.u8)))).fst) =
                                              false →
                                            (decide
                                                  (List.getD x.fst (1 : Nat) (0 : Int) <
                                                    (List.getD accTab
                                                        (Int.toNat
                                                          (Int.fdiv (List.getD Lib.firstTab (Int.toNat (List.getD x.fst (0 : Nat) (0 : Int))) (Kd.dft (Kd.int IntKind.u8))) ((2 : Int) ^ (4 : Nat))))
                                                        (Kd.dft (Kd.pair (Kd.int IntKind.u8) (Kd.int IntKind.u8)))).fst) ==
                                                false) =
                                              true) ∧
                                          ((bif
                                                    decide
                                                      (List.getD x.fst (1 : Nat) (0 : Int) <
                                                        (List.getD accTab
                                                            (Int.toNat
                                                              (Int.fdiv (List.getD Lib.firstTab (Int.toNat (List.getD x.fst (0 : Nat) (0 : Int))) (Kd.dft (Kd.int IntKind.u8))) ((2 : Int) ^ (4 : Nat))))
                                                            (Kd.dft (Kd.pair (Kd.int IntKind.u8) (Kd.int IntKind.u8)))).fst) then
                                                  true
                                                else
                                                  decide
                                                    ((List.getD accTab
                                                          (Int.toNat
                                                            (Int.fdiv (List.getD Lib.firstTab (Int.toNat (List.getD x.fst (0 : Nat) (0 : Int))) (Kd.dft (Kd.int IntKind.u8))) ((2 : Int) ^ (4 : Nat))))
                                                          (Kd.dft (Kd.pair (Kd.int IntKind.u8) (Kd.int IntKind.u8)))).snd <
                                                      List.getD x.fst (1 : Nat) (0 : Int))) =
                                                true →
                                              (65533 : Int) = (decD x.fst).fst ∧ (1 : Int) = (decD x.fst).snd) ∧
                                            ((bif
                                                    decide
                                                      (List.getD x.fst (1 : Nat) (0 : Int) <
                                                        (List.getD accTab
                                                            (Int.toNat
                                                              (Int.fdiv (List.getD Lib.firstTab (Int.toNat (List.getD x.fst (0 : Nat) (0 : Int))) (Kd.dft (Kd.int IntKind.u8))) ((2 : Int) ^ (4 : Nat))))
                                                            (Kd.dft (Kd.pair (Kd.int IntKind.u8) (Kd.int IntKind.u8)))).fst) then
                                                  true
                                                else
                                                  decide
                                                    ((List.getD accTab
                                                          (Int.toNat
                                                            (Int.fdiv (List.getD Lib.firstTab (Int.toNat (List.getD x.fst (0 : Nat) (0 : Int))) (Kd.dft (Kd.int IntKind.u8))) ((2 : Int) ^ (4 : Nat))))
                                                          (Kd.dft (Kd.pair (Kd.int IntKind.u8) (Kd.int IntKind.u8)))).snd <
                                                      List.getD x.fst (1 : Nat) (0 : Int))) =
                                                false →
                                              (decide
                                                      (IntKind.wrap IntKind.i64
                                                          (IntKind.wrap IntKind.u8
                                                            (↑(BitVec.toNat
                                                                  (BitVec.ofInt (8 : Nat) (List.getD Lib.firstTab (Int.toNat (List.getD x.fst (0 : Nat) (0 : Int))) (Kd.dft (Kd.int IntKind.u8))) &&&
                                                                    BitVec.ofInt (8 : Nat) (7 : Int))) :
                                                              Int)) ≤
                                                        (2 : Int)) =
                                                    true →
                                                  (0 : Int) ≤ (6 : Int) ∧
                                                    IntKind.wrap IntKind.i32
                                                          (↑(BitVec.toNat
                                                                (BitVec.ofInt (32 : Nat)
                                                                    (IntKind.wrap IntKind.i32
                                                                      (IntKind.wrap IntKind.i32
                                                                          (IntKind.wrap IntKind.u8
                                                                            (↑(BitVec.toNat (BitVec.ofInt (8 : Nat) (List.getD x.fst (0 : Nat) (0 : Int)) &&& BitVec.ofInt (8 : Nat) (31 : Int))) :
                                                                              Int)) *
                                                                        (2 : Int) ^ (6 : Nat))) |||
                                                                  BitVec.ofInt (32 : Nat)
                                                                    (IntKind.wrap IntKind.i32
                                                                      (IntKind.wrap IntKind.u8
                                                                        (↑(BitVec.toNat (BitVec.ofInt (8 : Nat) (List.getD x.fst (1 : Nat) (0 : Int)) &&& BitVec.ofInt (8 : Nat) (63 : Int))) : Int))))) :
                                                            Int) =
                                                        (decD x.fst).fst ∧
                                                      (2 : Int) = (decD x.fst).snd) ∧
                                                (decide
                                                      (IntKind.wrap IntKind.i64
                                                          (IntKind.wrap IntKind.u8
                                                            (↑(BitVec.toNat
                                                                  (BitVec.ofInt (8 : Nat) (List.getD Lib.firstTab (Int.toNat (List.getD x.fst (0 : Nat) (0 : Int))) (Kd.dft (Kd.int IntKind.u8))) &&&
                                                                    BitVec.ofInt (8 : Nat) (7 : Int))) :
                                                              Int)) ≤
                                                        (2 : Int)) =
                                                    false →
                                                  ((0 : Int) ≤ (2 : Int) ∧ (2 : Int) < (↑(List.length x.fst) : Int)) ∧
                                                    (decide (List.getD x.fst (2 : Nat) (0 : Int) < (128 : Int)) = false → True) ∧
                                                      (decide (List.getD x.fst (2 : Nat) (0 : Int) < (128 : Int)) = false →
                                                          (decide (List.getD x.fst (2 : Nat) (0 : Int) < (128 : Int)) == false) = true ∧ True) ∧
                                                        (decide (List.getD x.fst (2 : Nat) (0 : Int) < (128 : Int)) = false →
                                                            (decide (List.getD x.fst (2 : Nat) (0 : Int) < (128 : Int)) == false) = true) ∧
                                                          ((bif decide (List.getD x.fst (2 : Nat) (0 : Int) < (128 : Int)) then true else decide ((191 : Int) < List.getD x.fst (2 : Nat) (0 : Int))) =
                                                                true →
                                                              (65533 : Int) = (decD x.fst).fst ∧ (1 : Int) = (decD x.fst).snd) ∧
                                                            ((bif decide (List.getD x.fst (2 : Nat) (0 : Int) < (128 : Int)) then true else decide ((191 : Int) < List.getD x.fst (2 : Nat) (0 : Int))) =
                                                                false →
                                                              (decide
                                                                      (IntKind.wrap IntKind.i64
                                                                          (IntKind.wrap IntKind.u8
                                                                            (↑(BitVec.toNat
                                                                                  (BitVec.ofInt (8 : Nat)
                                                                                      (List.getD Lib.firstTab (Int.toNat (List.getD x.fst (0 : Nat) (0 : Int))) (Kd.dft (Kd.int IntKind.u8))) &&&
                                                                                    BitVec.ofInt (8 : Nat) (7 : Int))) :
                                                                              Int)) ≤
                                                                        (3 : Int)) =
                                                                    true →
                                                                  (0 : Int) ≤ (12 : Int) ∧
                                                                    (0 : Int) ≤ (6 : Int) ∧
                                                                      IntKind.wrap IntKind.i32
                                                                            (↑(BitVec.toNat
                                                                                  (BitVec.ofInt (32 : Nat)
                                                                                      (IntKind.wrap IntKind.i32
                                                                                        (↑(BitVec.toNat
                                                                                              (BitVec.ofInt (32 : Nat)
                                                                                                  (IntKind.wrap IntKind.i32
                                                                                                    (IntKind.wrap IntKind.i32
                                                                                                        (IntKind.wrap IntKind.u8
                                                                                                          (↑(BitVec.toNat
                                                                                                                (BitVec.ofInt (8 : Nat) (List.getD x.fst (0 : Nat) (0 : Int)) &&&
                                                                                                                  BitVec.ofInt (8 : Nat) (15 : Int))) :
                                                                                                            Int)) *
                                                                                                      (2 : Int) ^ (12 : Nat))) |||
                                                                                                BitVec.ofInt (32 : Nat)
                                                                                                  (IntKind.wrap IntKind.i32
                                                                                                    (IntKind.wrap IntKind.i32
                                                                                                        (IntKind.wrap IntKind.u8
                                                                                                          (↑(BitVec.toNat
                                                                                                                (BitVec.ofInt (8 : Nat) (List.getD x.fst (1 : Nat) (0 : Int)) &&&
                                                                                                                  BitVec.ofInt (8 : Nat) (63 : Int))) :
                                                                                                            Int)) *
                                                                                                      (2 : Int) ^ (6 : Nat))))) :
                                                                                          Int)) |||
                                                                                    BitVec.ofInt (32 : Nat)
                                                                                      (IntKind.wrap IntKind.i32
                                                                                        (IntKind.wrap IntKind.u8
                                                                                          (↑(BitVec.toNat
                                                                                                (BitVec.ofInt (8 : Nat) (List.getD x.fst (2 : Nat) (0 : Int)) &&& BitVec.ofInt (8 : Nat) (63 : Int))) :
                                                                                            Int))))) :
                                                                              Int) =
                                                                          (decD x.fst).fst ∧
                                                                        (3 : Int) = (decD x.fst).snd) ∧
                                                                (decide
                                                                      (IntKind.wrap IntKind.i64
                                                                          (IntKind.wrap IntKind.u8
                                                                            (↑(BitVec.toNat
                                                                                  (BitVec.ofInt (8 : Nat)
                                                                                      (List.getD Lib.firstTab (Int.toNat (List.getD x.fst (0 : Nat) (0 : Int))) (Kd.dft (Kd.int IntKind.u8))) &&&
                                                                                    BitVec.ofInt (8 : Nat) (7 : Int))) :
                                                                              Int)) ≤
                                                                        (3 : Int)) =
                                                                    false →
                                                                  ((0 : Int) ≤ (3 : Int) ∧ (3 : Int) < (↑(List.length x.fst) : Int)) ∧
                                                                    (decide (List.getD x.fst (3 : Nat) (0 : Int) < (128 : Int)) = false → True) ∧
                                                                      (decide (List.getD x.fst (3 : Nat) (0 : Int) < (128 : Int)) = false →
                                                                          (decide (List.getD x.fst (3 : Nat) (0 : Int) < (128 : Int)) == false) = true ∧ True) ∧
                                                                        (decide (List.getD x.fst (3 : Nat) (0 : Int) < (128 : Int)) = false →
                                                                            (decide (List.getD x.fst (3 : Nat) (0 : Int) < (128 : Int)) == false) = true) ∧
                                                                          ((bif decide (List.getD x.fst (3 : Nat) (0 : Int) < (128 : Int)) then true
                                                                                else decide ((191 : Int) < List.getD x.fst (3 : Nat) (0 : Int))) =
                                                                                true →
                                                                              (65533 : Int) = (decD x.fst).fst ∧ (1 : Int) = (decD x.fst).snd) ∧
                                                                            ((bif decide (List.getD x.fst (3 : Nat) (0 : Int) < (128 : Int)) then true
                                                                                else decide ((191 : Int) < List.getD x.fst (3 : Nat) (0 : Int))) =
                                                                                false →
                                                                              (0 : Int) ≤ (18 : Int) ∧
                                                                                (0 : Int) ≤ (12 : Int) ∧
                                                                                  (0 : Int) ≤ (6 : Int) ∧
                                                                                    IntKind.wrap IntKind.i32
                                                                                          (↑(BitVec.toNat
                                                                                                (BitVec.ofInt (32 : Nat)
                                                                                                    (IntKind.wrap IntKind.i32
                                                                                                      (↑(BitVec.toNat
                                                                                                            (BitVec.ofInt (32 : Nat)
                                                                                                                (IntKind.wrap IntKind.i32
                                                                                                                  (↑(BitVec.toNat
                                                                                                                        (BitVec.ofInt (32 : Nat)
                                                                                                                            (IntKind.wrap IntKind.i32
                                                                                                                              (IntKind.wrap IntKind.i32
                                                                                                                                  (IntKind.wrap IntKind.u8
                                                                                                                                    (↑(BitVec.toNat
                                                                                                                                          (BitVec.ofInt (8 : Nat)
                                                                                                                                              (List.getD x.fst (0 : Nat) (0 : Int)) &&&
                                                                                                                                            BitVec.ofInt (8 : Nat) (7 : Int))) :
                                                                                                                                      Int)) *
                                                                                                                                (2 : Int) ^ (18 : Nat))) |||
                                                                                                                          BitVec.ofInt (32 : Nat)
                                                                                                                            (IntKind.wrap IntKind.i32
                                                                                                                              (IntKind.wrap IntKind.i32
                                                                                                                                  (IntKind.wrap IntKind.u8
                                                                                                                                    (↑(BitVec.toNat
                                                                                                                                          (BitVec.ofInt (8 : Nat)
                                                                                                                                              (List.getD x.fst (1 : Nat) (0 : Int)) &&&
                                                                                                                                            BitVec.ofInt (8 : Nat) (63 : Int))) :
                                                                                                                                      Int)) *
                                                                                                                                (2 : Int) ^ (12 : Nat))))) :
                                                                                                                    Int)) |||
                                                                                                              BitVec.ofInt (32 : Nat)
                                                                                                                (IntKind.wrap IntKind.i32
                                                                                                                  (IntKind.wrap IntKind.i32
                                                                                                                      (IntKind.wrap IntKind.u8
                                                                                                                        (↑(BitVec.toNat
                                                                                                                              (BitVec.ofInt (8 : Nat) (List.getD x.fst (2 : Nat) (0 : Int)) &&&
                                                                                                                                BitVec.ofInt (8 : Nat) (63 : Int))) :
                                                                                                                          Int)) *
                                                                                                                    (2 : Int) ^ (6 : Nat))))) :
                                                                                                        Int)) |||
                                                                                                  BitVec.ofInt (32 : Nat)
                                                                                                    (IntKind.wrap IntKind.i32
                                                                                                      (IntKind.wrap IntKind.u8
                                                                                                        (↑(BitVec.toNat
                                                                                                              (BitVec.ofInt (8 : Nat) (List.getD x.fst (3 : Nat) (0 : Int)) &&&
                                                                                                                BitVec.ofInt (8 : Nat) (63 : Int))) :
                                                                                                          Int))))) :
                                                                                            Int) =
                                                                                        (decD x.fst).fst ∧
                                                                                      (4 : Int) = (decD x.fst).snd))))))))
theorem e30 : t30 = Con.vc c30 GL (mkEnv ty [] [] [] [0, 2, 3, 4, 5, 6, 7, 8, 9, 10, 11, 12, 16, 23, 45, 57, 59, 75, 77, 98]) {} Tryd.f30.ntmps Tryd.f30.results.toList (bodyOf Tryd.f30) := by kernel_rfl
theorem k30 : t30 := by
  unfold t30
  rintro ⟨l, _⟩ hx hp
  have hw : Kd.wf Kd.str l := hx.1
  try dsimp +instances only [dft_int, dft_sl, dft_str]
  simp only [true_and, and_true, eq_self_iff_true, implies_true, reduceCtorEq, false_implies, true_implies, decide_eq_true_eq, decide_eq_false_iff_not, beq_self_eq_true, Bool.not_eq_true', ne_eq, Decidable.not_not, List.nil_append, List.length_singleton, List.length_cons, List.length_nil, Nat.zero_add, Nat.add_zero, Nat.mul_one, and_self, beq_iff_eq, Bool.not_true, Bool.not_false, Bool.not_eq_false', Bool.cond_false_right, Bool.and_eq_true, imp_self, Bool.not_eq_true, Bool.cond_true_left, Bool.or_eq_true]
  simp only [Bool.or_eq_false_iff, decide_eq_false_iff_not]
  refine ⟨fun h => ?_, fun hne => ?_⟩
  · have : l = [] := List.eq_nil_of_length_eq_zero (by omega)
    subst this
    exact ⟨rfl, rfl⟩
  have hl : 1 ≤ l.length := by omega
  have hD : decD l = (((udec l 0).1 : Int), ((udec l 0).2 : Int)) := by rw [decD, if_neg (fun e => by rw [e] at hl; simp at hl)]
  have hu : udec l 0 = Lib.decodeN l.length (l.getD 0 0).toNat (l.getD 1 0).toNat (l.getD 2 0).toNat (l.getD 3 0).toNat := rfl
  rw [hD, hu]
  obtain ⟨b0, e0, g0⟩ := nat_of l hw 0
  obtain ⟨b1, e1, g1⟩ := nat_of l hw 1
  obtain ⟨b2, e2, g2⟩ := nat_of l hw 2
  obtain ⟨b3, e3, g3⟩ := nat_of l hw 3
  rw [e0, e1, e2, e3, Int.toNat_natCast, Int.toNat_natCast, Int.toNat_natCast, Int.toNat_natCast, first_get b0 g0]
  obtain ⟨f1, f2, f3⟩ := first_sz b0
  generalize hn : l.length = n at *
  refine ⟨⟨by decide, by omega⟩, ⟨by omega, by omega⟩, fun hF => ?_, fun hF => ?_⟩
  · have hF : 240 ≤ Lib.firstT b0 := by omega
    refine ⟨by decide, by decide, ⟨by decide, by omega⟩, ?_⟩
    rw [mask_eq b0 g0 hF]
    rcases f2 hF with h | h
    · rw [if_pos h, Lib.ascii_eq _ _ _ _ _ h]; exact ⟨rfl, rfl⟩
    · rw [if_neg (by omega), Lib.bad_eq _ _ _ _ _ g0 h]; exact ⟨rfl, rfl⟩
  · have hF : Lib.firstT b0 < 240 := by omega
    obtain ⟨s2, s4⟩ := f3 hF
    have hs := Lib.slow_eq n b0 b1 b2 b3 (by omega) g1 g2 g3 hF
    have hm : IntKind.i64.wrap (IntKind.u8.wrap ↑(BitVec.ofInt 8 (Lib.firstT b0 : Int) &&& BitVec.ofInt 8 7).toNat) = ((Lib.firstT b0 % 8 : Nat) : Int) := by
      rw [and_7 _ (by omega), wrapK _ (by omega) (by omega)]
    have hfd : (Lib.firstT b0 : Int).fdiv (2 ^ 4) = ((Lib.firstT b0 / 16 : Nat) : Int) := by
      rw [Int.fdiv_eq_ediv_of_nonneg _ (by decide)]
      omega
    have hac : Lib.firstT b0 / 16 < 16 := by omega
    rw [hm, hfd, Int.toNat_natCast, acc_get _ hac, ← hs]
    generalize Lib.firstT b0 % 8 = sz at *
    generalize Lib.firstT b0 / 16 = ac at *
    simp only
    refine ⟨by decide, ⟨by omega, by omega⟩, by decide, fun h => ?_, fun h => ⟨⟨by decide, by omega⟩, fun hb => ?_, fun hb => ⟨fun hz => ?_, fun hz => ⟨⟨by decide, by omega⟩, fun hc => ?_, fun hc => ⟨fun hz3 => ?_, fun hz3 => ⟨⟨by decide, by omega⟩, fun hd => ?_, fun hd => ?_⟩⟩⟩⟩⟩⟩
    · rw [Lib.slowN, if_pos (by omega)]; exact ⟨rfl, rfl⟩
    · rw [Lib.slowN, if_neg (by omega), if_pos (by omega)]; exact ⟨rfl, rfl⟩
    · rw [Lib.slowN, if_neg (by omega), if_neg (by omega), if_pos (by omega)]
      refine ⟨by decide, ?_, rfl⟩
      rw [and_31 b0 g0, and_63 b1 g1, or2 _ _ (by omega) (by omega)]
    · rw [Lib.slowN, if_neg (by omega), if_neg (by omega), if_neg (by omega), if_pos (by omega)]; exact ⟨rfl, rfl⟩
    · rw [Lib.slowN, if_neg (by omega), if_neg (by omega), if_neg (by omega), if_neg (by omega), if_pos (by omega)]
      refine ⟨by decide, by decide, ?_, rfl⟩
      rw [and_15 b0 g0, and_63 b1 g1, and_63 b2 g2, or3 _ _ _ (by omega) (by omega) (by omega)]
    · rw [Lib.slowN, if_neg (by omega), if_neg (by omega), if_neg (by omega), if_neg (by omega), if_neg (by omega), if_pos (by omega)]; exact ⟨rfl, rfl⟩
    · rw [Lib.slowN, if_neg (by omega), if_neg (by omega), if_neg (by omega), if_neg (by omega), if_neg (by omega), if_neg (by omega)]
      refine ⟨by decide, by decide, by decide, ?_, rfl⟩
      rw [and_7 b0 g0, and_63 b1 g1, and_63 b2 g2, and_63 b3 g3, or4 _ _ _ _ (by omega) (by omega) (by omega) (by omega)]
theorem h30 : c30.ok Tryd.prog GL 30 := con_ok (H := {}) (mkEnv_ok (gl := GL) (l := []) (q := []) (d := []) _ tyOk (by kernel_rfl) trivial trivial trivial) (by kernel_rfl) (by kernel_rfl) (Eq.mp e30 k30)

def t22 : Prop :=
  ∀ (x : List Int × Unit),
    Kd.wf Kd.str x.fst ∧ True →
      True →
        (decide (x.fst ≠ bs { data := #[] }) = true → True) ∧
          (decide (x.fst ≠ bs { data := #[] }) = true → (decide (x.fst ≠ bs { data := #[] }) == true) = true ∧ ((0 : Int) ≤ (0 : Int) ∧ (0 : Int) < (↑(List.length x.fst) : Int)) ∧ True) ∧
            (decide (x.fst ≠ bs { data := #[] }) = true → (decide (x.fst ≠ bs { data := #[] }) == true) = true ∧ True) ∧
              (decide (x.fst ≠ bs { data := #[] }) = true → (decide (x.fst ≠ bs { data := #[] }) == true) = true) ∧
                ((bif decide (x.fst ≠ bs { data := #[] }) then decide (List.getD x.fst (0 : Nat) (0 : Int) < (128 : Int)) else false) = true →
                    ((0 : Int) ≤ (0 : Int) ∧ (0 : Int) < (↑(List.length x.fst) : Int)) ∧
                      IntKind.wrap IntKind.i32 (List.getD x.fst (0 : Nat) (0 : Int)) = (decD x.fst).fst ∧ (1 : Int) = (decD x.fst).snd) ∧
                  ((bif decide (x.fst ≠ bs { data := #[] }) then decide (List.getD x.fst (0 : Nat) (0 : Int) < (128 : Int)) else false) = false →
                    True ∧
                      (∀ (y : Int × Int × Unit),
                          Kd.wf (Kd.int IntKind.i32) y.fst ∧ Kd.wf (Kd.int IntKind.i64) y.snd.fst ∧ True →
                            y.fst = (decD x.fst).fst ∧ y.snd.fst = (decD x.fst).snd → y.fst = (decD x.fst).fst ∧ y.snd.fst = (decD x.fst).snd) ∧
                        True)
theorem e22 : t22 = Con.vc c22 GL (mkEnv ty [(30, conSem c30)] [] [] [0, 2, 3, 10]) {} Tryd.f22.ntmps Tryd.f22.results.toList (bodyOf Tryd.f22) := by kernel_rfl
theorem k22 : t22 := by
  unfold t22
  rintro ⟨l, _⟩ hx hp
  have hw : Kd.wf Kd.str l := hx.1
  try dsimp +instances only [dft_int, dft_sl, dft_str]
  simp only [true_and, and_true, eq_self_iff_true, implies_true, reduceCtorEq, false_implies, true_implies, decide_eq_true_eq, decide_eq_false_iff_not, beq_self_eq_true, Bool.not_eq_true', ne_eq, Decidable.not_not, List.nil_append, List.length_singleton, List.length_cons, List.length_nil, Nat.zero_add, Nat.add_zero, Nat.mul_one, and_self, beq_iff_eq, Bool.not_true, Bool.not_false, Bool.not_eq_false', Bool.cond_false_right, Bool.and_eq_true, imp_self, Bool.not_eq_true, Bool.cond_true_left, Bool.or_eq_true]
  rw [bs_nil]
  refine ⟨fun h => ⟨h, by decide, by have := List.length_pos_iff.2 h; omega⟩, fun h => ⟨⟨by decide, by have := List.length_pos_iff.2 h.1; omega⟩, ?_⟩⟩
  have hb := str_get hw 0
  have hu := udec_ascii l 0 (by omega)
  rw [decD, if_neg h.1, hu]
  refine ⟨?_, rfl⟩
  show _ = (((l.getD 0 0).toNat : Nat) : Int)
  have h2 := h.2
  generalize l.getD 0 0 = b at hb h2 ⊢
  simp [IntKind.wrap, IntKind.signed, IntKind.bits]
  omega
theorem h22 : c22.ok Tryd.prog GL 22 := con_ok (H := {}) (mkEnv_ok (gl := GL) (l := [(30, conSem c30)]) (q := []) (d := []) _ tyOk (by kernel_rfl) ⟨h30.call, trivial⟩ trivial trivial) (by kernel_rfl) (by kernel_rfl) (Eq.mp e22 k22)

def t10 : Prop :=
  ∀ (x : List Int × Unit),
    Kd.wf Kd.str x.fst ∧ True →
      True →
        ∃ (I : Int × Unit → Nat × Unit → Prop),
          ∃ (μ : Int × Unit → Nat × Unit → Nat),
            (x.fst = x.fst ∧ x.fst = x.fst ∧ I ((0 : Int), ()) ((0 : Nat), ())) ∧
              ∀ (y : Int × Unit) (z : Nat × Unit),
                Kd.wf (Kd.int IntKind.i64) y.fst ∧ True →
                  True →
                    I y z →
                      (z.fst < List.length x.fst →
                          (decide ((↑(udec x.fst z.fst).fst : Int) ≠ (65533 : Int)) = true →
                              x.fst = x.fst ∧ x.fst = x.fst ∧ I (y.fst, ()) (z.fst + (udec x.fst z.fst).snd, ()) ∧ μ (y.fst, ()) (z.fst + (udec x.fst z.fst).snd, ()) < μ y z) ∧
                            (decide ((↑(udec x.fst z.fst).fst : Int) ≠ (65533 : Int)) = false →
                              ((0 : Int) ≤ (↑z.fst : Int) ∧ (↑z.fst : Int) ≤ (↑(List.length x.fst) : Int)) ∧
                                True ∧
                                  (∀ (y_1 : Int × Int × Unit),
                                      Kd.wf (Kd.int IntKind.i32) y_1.fst ∧ Kd.wf (Kd.int IntKind.i64) y_1.snd.fst ∧ True →
                                        y_1.fst = (decD (List.drop (Int.toNat (↑z.fst : Int)) x.fst)).fst ∧ y_1.snd.fst = (decD (List.drop (Int.toNat (↑z.fst : Int)) x.fst)).snd →
                                          (decide (y_1.snd.fst = (1 : Int)) = true → (↑z.fst : Int) = (↑(vld x.fst (0 : Nat)) : Int)) ∧
                                            (decide (y_1.snd.fst = (1 : Int)) = false →
                                              x.fst = x.fst ∧ x.fst = x.fst ∧ I (y.fst, ()) (z.fst + (udec x.fst z.fst).snd, ()) ∧ μ (y.fst, ()) (z.fst + (udec x.fst z.fst).snd, ()) < μ y z)) ∧
                                    True)) ∧
                        (List.length x.fst ≤ z.fst → (↑(List.length x.fst) : Int) = (↑(vld x.fst (0 : Nat)) : Int))
theorem e10 : t10 = Con.vc c10 GL (mkEnv ty [(22, conSem c22)] [] [] [0, 2, 3, 4, 6, 8, 9, 10, 14, 23]) {} Tryd.f10.ntmps Tryd.f10.results.toList (bodyOf Tryd.f10) := by kernel_rfl
theorem k10 : t10 := by
  unfold t10
  rintro ⟨l, _⟩ hx hp
  have hw : Kd.wf Kd.str l := hx.1
  try dsimp +instances only [dft_int, dft_sl, dft_str]
  simp only [true_and, and_true, eq_self_iff_true, implies_true, reduceCtorEq, false_implies, true_implies, decide_eq_true_eq, decide_eq_false_iff_not, beq_self_eq_true, Bool.not_eq_true', ne_eq, Decidable.not_not, List.nil_append, List.length_singleton, List.length_cons, List.length_nil, Nat.zero_add, Nat.add_zero, Nat.mul_one, and_self, beq_iff_eq, Bool.not_true, Bool.not_false, Bool.not_eq_false', Bool.cond_false_right, Bool.and_eq_true, imp_self, Bool.not_eq_true, Bool.cond_true_left, Bool.or_eq_true]
  refine ⟨fun _ z => z.1 ≤ l.length ∧ vld l 0 = vld l z.1, fun _ z => l.length - z.1, ⟨Nat.zero_le _, rfl⟩, ?_⟩
  rintro ⟨r, _⟩ ⟨i, _⟩ _ ⟨h0, h1⟩
  simp only at h0 h1 ⊢
  refine ⟨fun hlt => ?_, fun hge => ?_⟩
  · have hu := udec_w l i hlt
    have go : ¬ ((udec l i).1 = 65533 ∧ (udec l i).2 = 1) → (i + (udec l i).2 ≤ l.length ∧ vld l 0 = vld l (i + (udec l i).2)) ∧ l.length - (i + (udec l i).2) < l.length - i := fun h => by
      have hc : chw l i = (udec l i).2 := by rw [chw, if_neg h]
      have := vld_step hlt (by rw [hc]; omega)
      rw [hc] at this
      exact ⟨⟨hu.2.2, by rw [h1, this]⟩, by omega⟩
    refine ⟨fun h => go (fun hc => h (by omega)), fun h => ⟨⟨by omega, by omega⟩, ?_⟩⟩
    rintro ⟨a, b, _⟩ _ ⟨ea, eb⟩
    simp only at ea eb ⊢
    rw [Int.toNat_natCast, dec_drop l i hlt] at ea eb
    simp only at ea eb
    refine ⟨fun hb => ?_, fun hb => go (fun hc => hb (by omega))⟩
    rw [h1, vld_stop (fun hc => hc.2 (by rw [chw, if_pos (by omega)]))]
  · rw [h1, vld_stop (fun hc => by omega)]
    omega
theorem h10 : c10.ok Tryd.prog GL 10 := con_ok (H := {}) (mkEnv_ok (gl := GL) (l := [(22, conSem c22)]) (q := []) (d := []) _ tyOk (by kernel_rfl) ⟨h22.call, trivial⟩ trivial trivial) (by kernel_rfl) (by kernel_rfl) (Eq.mp e10 k10)

def t31 : Prop :=
  ∀ (x : List Int × Int × Int × Unit),
    Kd.wf Kd.str x.fst ∧ Kd.wf (Kd.int IntKind.i64) x.snd.fst ∧ Kd.wf (Kd.int IntKind.i64) x.snd.snd.fst ∧ True →
      List.length x.fst ≤ (1000000000 : Nat) ∧ (0 : Int) ≤ x.snd.fst ∧ x.snd.fst ≤ (1000000000 : Int) ∧ (0 : Int) ≤ x.snd.snd.fst ∧ x.snd.snd.fst ≤ (3 : Int) →
        ∃ (I : Int × Bool × Unit → Unit → Prop),
          ∃ (μ : Int × Bool × Unit → Unit → Nat),
            (x.fst = x.fst ∧ x.snd.fst = x.snd.fst ∧ x.snd.snd.fst = x.snd.snd.fst ∧ I ((0 : Int), false, ()) ()) ∧
              ∀ (y : Int × Bool × Unit) (z : Unit),
                Kd.wf (Kd.int IntKind.i64) y.fst ∧ Kd.wf Kd.bool y.snd.fst ∧ True →
                  True →
                    I y z →
                      (decide (y.fst < x.snd.snd.fst) = true →
                          (decide ((↑(List.length x.fst) : Int) ≤ IntKind.wrap IntKind.i64 (x.snd.fst + y.fst)) = false → True) ∧
                            (decide ((↑(List.length x.fst) : Int) ≤ IntKind.wrap IntKind.i64 (x.snd.fst + y.fst)) = false → True) ∧
                              (decide ((↑(List.length x.fst) : Int) ≤ IntKind.wrap IntKind.i64 (x.snd.fst + y.fst)) = false → True) ∧
                                (decide ((↑(List.length x.fst) : Int) ≤ IntKind.wrap IntKind.i64 (x.snd.fst + y.fst)) = false →
                                    (decide ((↑(List.length x.fst) : Int) ≤ IntKind.wrap IntKind.i64 (x.snd.fst + y.fst)) == false) = true ∧
                                      (decide ((↑(List.length x.fst) : Int) ≤ IntKind.wrap IntKind.i64 (x.snd.fst + y.fst)) == false) = true ∧ True) ∧
                                  (decide ((↑(List.length x.fst) : Int) ≤ IntKind.wrap IntKind.i64 (x.snd.fst + y.fst)) = false →
                                      (decide ((↑(List.length x.fst) : Int) ≤ IntKind.wrap IntKind.i64 (x.snd.fst + y.fst)) == false) = true ∧
                                        (decide ((↑(List.length x.fst) : Int) ≤ IntKind.wrap IntKind.i64 (x.snd.fst + y.fst)) == false) = true ∧
                                          ((0 : Int) ≤ IntKind.wrap IntKind.i64 (x.snd.fst + y.fst) ∧ IntKind.wrap IntKind.i64 (x.snd.fst + y.fst) < (↑(List.length x.fst) : Int)) ∧ True) ∧
                                    (decide ((↑(List.length x.fst) : Int) ≤ IntKind.wrap IntKind.i64 (x.snd.fst + y.fst)) = false →
                                        (decide ((↑(List.length x.fst) : Int) ≤ IntKind.wrap IntKind.i64 (x.snd.fst + y.fst)) == false) = true ∧ True) ∧
                                      (decide ((↑(List.length x.fst) : Int) ≤ IntKind.wrap IntKind.i64 (x.snd.fst + y.fst)) = false →
                                          (decide ((↑(List.length x.fst) : Int) ≤ IntKind.wrap IntKind.i64 (x.snd.fst + y.fst)) == false) = true) ∧
                                        ((bif decide ((↑(List.length x.fst) : Int) ≤ IntKind.wrap IntKind.i64 (x.snd.fst + y.fst)) then true
                                              else decide (List.getD x.fst (Int.toNat (IntKind.wrap IntKind.i64 (x.snd.fst + y.fst))) (0 : Int) < (128 : Int))) =
                                              false →
                                            True) ∧
                                          ((bif decide ((↑(List.length x.fst) : Int) ≤ IntKind.wrap IntKind.i64 (x.snd.fst + y.fst)) then true
                                                else decide (List.getD x.fst (Int.toNat (IntKind.wrap IntKind.i64 (x.snd.fst + y.fst))) (0 : Int) < (128 : Int))) =
                                                false →
                                              True) ∧
                                            ((bif decide ((↑(List.length x.fst) : Int) ≤ IntKind.wrap IntKind.i64 (x.snd.fst + y.fst)) then true
                                                  else decide (List.getD x.fst (Int.toNat (IntKind.wrap IntKind.i64 (x.snd.fst + y.fst))) (0 : Int) < (128 : Int))) =
                                                  false →
                                                True) ∧
                                              ((bif decide ((↑(List.length x.fst) : Int) ≤ IntKind.wrap IntKind.i64 (x.snd.fst + y.fst)) then true
                                                    else decide (List.getD x.fst (Int.toNat (IntKind.wrap IntKind.i64 (x.snd.fst + y.fst))) (0 : Int) < (128 : Int))) =
                                                    false →
                                                  ((bif decide ((↑(List.length x.fst) : Int) ≤ IntKind.wrap IntKind.i64 (x.snd.fst + y.fst)) then true
                                                        else decide (List.getD x.fst (Int.toNat (IntKind.wrap IntKind.i64 (x.snd.fst + y.fst))) (0 : Int) < (128 : Int))) ==
                                                        false) =
                                                      true ∧
                                                    ((bif decide ((↑(List.length x.fst) : Int) ≤ IntKind.wrap IntKind.i64 (x.snd.fst + y.fst)) then true
                                                          else decide (List.getD x.fst (Int.toNat (IntKind.wrap IntKind.i64 (x.snd.fst + y.fst))) (0 : Int) < (128 : Int))) ==
                                                          false) =
                                                        true ∧
                                                      True) ∧
                                                ((bif decide ((↑(List.length x.fst) : Int) ≤ IntKind.wrap IntKind.i64 (x.snd.fst + y.fst)) then true
                                                      else decide (List.getD x.fst (Int.toNat (IntKind.wrap IntKind.i64 (x.snd.fst + y.fst))) (0 : Int) < (128 : Int))) =
                                                      false →
                                                    ((bif decide ((↑(List.length x.fst) : Int) ≤ IntKind.wrap IntKind.i64 (x.snd.fst + y.fst)) then true
                                                          else decide (List.getD x.fst (Int.toNat (IntKind.wrap IntKind.i64 (x.snd.fst + y.fst))) (0 : Int) < (128 : Int))) ==
                                                          false) =
                                                        true ∧
                                                      ((bif decide ((↑(List.length x.fst) : Int) ≤ IntKind.wrap IntKind.i64 (x.snd.fst + y.fst)) then true
                                                            else decide (List.getD x.fst (Int.toNat (IntKind.wrap IntKind.i64 (x.snd.fst + y.fst))) (0 : Int) < (128 : Int))) ==
                                                            false) =
                                                          true ∧
                                                        ((0 : Int) ≤ IntKind.wrap IntKind.i64 (x.snd.fst + y.fst) ∧ IntKind.wrap IntKind.i64 (x.snd.fst + y.fst) < (↑(List.length x.fst) : Int)) ∧ True) ∧
                                                  ((bif decide ((↑(List.length x.fst) : Int) ≤ IntKind.wrap IntKind.i64 (x.snd.fst + y.fst)) then true
                                                        else decide (List.getD x.fst (Int.toNat (IntKind.wrap IntKind.i64 (x.snd.fst + y.fst))) (0 : Int) < (128 : Int))) =
                                                        false →
                                                      ((bif decide ((↑(List.length x.fst) : Int) ≤ IntKind.wrap IntKind.i64 (x.snd.fst + y.fst)) then true
                                                            else decide (List.getD x.fst (Int.toNat (IntKind.wrap IntKind.i64 (x.snd.fst + y.fst))) (0 : Int) < (128 : Int))) ==
                                                            false) =
                                                          true ∧
                                                        True) ∧
                                                    ((bif decide ((↑(List.length x.fst) : Int) ≤ IntKind.wrap IntKind.i64 (x.snd.fst + y.fst)) then true
                                                          else decide (List.getD x.fst (Int.toNat (IntKind.wrap IntKind.i64 (x.snd.fst + y.fst))) (0 : Int) < (128 : Int))) =
                                                          false →
                                                        ((bif decide ((↑(List.length x.fst) : Int) ≤ IntKind.wrap IntKind.i64 (x.snd.fst + y.fst)) then true
                                                            else decide (List.getD x.fst (Int.toNat (IntKind.wrap IntKind.i64 (x.snd.fst + y.fst))) (0 : Int) < (128 : Int))) ==
                                                            false) =
                                                          true) ∧
                                                      ((bif
                                                                bif decide ((↑(List.length x.fst) : Int) ≤ IntKind.wrap IntKind.i64 (x.snd.fst + y.fst)) then true
                                                                else decide (List.getD x.fst (Int.toNat (IntKind.wrap IntKind.i64 (x.snd.fst + y.fst))) (0 : Int) < (128 : Int)) then
                                                              true
                                                            else decide ((191 : Int) < List.getD x.fst (Int.toNat (IntKind.wrap IntKind.i64 (x.snd.fst + y.fst))) (0 : Int))) =
                                                            true →
                                                          false = moreD x.fst (Int.toNat x.snd.fst) (Int.toNat x.snd.snd.fst)) ∧
                                                        ((bif
                                                                bif decide ((↑(List.length x.fst) : Int) ≤ IntKind.wrap IntKind.i64 (x.snd.fst + y.fst)) then true
                                                                else decide (List.getD x.fst (Int.toNat (IntKind.wrap IntKind.i64 (x.snd.fst + y.fst))) (0 : Int) < (128 : Int)) then
                                                              true
                                                            else decide ((191 : Int) < List.getD x.fst (Int.toNat (IntKind.wrap IntKind.i64 (x.snd.fst + y.fst))) (0 : Int))) =
                                                            false →
                                                          x.fst = x.fst ∧
                                                            x.snd.fst = x.snd.fst ∧
                                                              x.snd.snd.fst = x.snd.snd.fst ∧
                                                                I (IntKind.wrap IntKind.i64 (y.fst + (1 : Int)), y.snd.fst, ()) () ∧
                                                                  μ (IntKind.wrap IntKind.i64 (y.fst + (1 : Int)), y.snd.fst, ()) () < μ y z)) ∧
                        (decide (y.fst < x.snd.snd.fst) = false → true = moreD x.fst (Int.toNat x.snd.fst) (Int.toNat x.snd.snd.fst))
theorem e31 : t31 = Con.vc c31 GL (mkEnv ty [] [] [] [0, 1, 2, 6, 7, 10, 34]) {} Tryd.f31.ntmps Tryd.f31.results.toList (bodyOf Tryd.f31) := by kernel_rfl
theorem k31 : t31 := by
  unfold t31
  rintro ⟨l, m, n, _⟩ hx ⟨hp1, hp2, hp3, hp4, hp5⟩
  have hp1 : l.length ≤ 1000000000 := hp1
  have hp2 : 0 ≤ m := hp2
  have hp3 : m ≤ 1000000000 := hp3
  have hp4 : 0 ≤ n := hp4
  have hp5 : n ≤ 3 := hp5
  try dsimp +instances only [dft_int, dft_sl, dft_str]
  simp only [true_and, and_true, eq_self_iff_true, implies_true, reduceCtorEq, false_implies, true_implies, decide_eq_true_eq, decide_eq_false_iff_not, beq_self_eq_true, Bool.not_eq_true', ne_eq, Decidable.not_not, List.nil_append, List.length_singleton, List.length_cons, List.length_nil, Nat.zero_add, Nat.add_zero, Nat.mul_one, and_self, beq_iff_eq, Bool.not_true, Bool.not_false, Bool.not_eq_false', Bool.cond_false_right, Bool.and_eq_true, imp_self, Bool.not_eq_true, Bool.cond_true_left, Bool.or_eq_true]
  refine ⟨fun y _ => 0 ≤ y.1 ∧ y.1 ≤ n ∧ ∀ j, j < y.1.toNat → m.toNat + j < l.length ∧ 128 ≤ l.getD (m.toNat + j) 0 ∧ l.getD (m.toNat + j) 0 ≤ 191, fun y _ => (n - y.1).toNat, ⟨by omega, hp4, fun j hj => by simp at hj⟩, ?_⟩
  rintro ⟨i, b, _⟩ z _ ⟨h0, h1, h2⟩
  simp only at h0 h1 h2 ⊢
  have hw : IntKind.wrap .i64 (m + i) = m + i := wrapK _ (by omega) (by omega)
  have hw2 : IntKind.wrap .i64 (i + 1) = i + 1 := wrapK _ (by omega) (by omega)
  have e : (m + i).toNat = m.toNat + i.toNat := by omega
  refine ⟨fun hlt => ⟨fun h => ⟨h, h, by rw [hw]; omega, by omega⟩, fun h => ⟨h, h, by rw [hw]; omega, ?_⟩, fun h => ?_, fun h => ?_⟩, fun hge => ?_⟩
  · rcases Bool.or_eq_false_iff.1 h with ⟨h3, _⟩
    have := of_decide_eq_false h3
    omega
  · symm
    rw [moreD, List.all_eq_false]
    refine ⟨i.toNat, by simp; omega, ?_⟩
    rw [hw, e] at h
    simp only [decide_eq_true_eq]
    omega
  · rcases Bool.or_eq_false_iff.1 h with ⟨h3, h4⟩
    rcases Bool.or_eq_false_iff.1 h3 with ⟨h5, h6⟩
    have h5 := of_decide_eq_false h5
    have h6 := of_decide_eq_false h6
    have h4 := of_decide_eq_false h4
    rw [hw] at h5 h6 h4
    rw [e] at h6 h4
    rw [hw2]
    refine ⟨⟨by omega, by omega, fun j hj => ?_⟩, by omega⟩
    by_cases hji : j < i.toNat
    · exact h2 j hji
    · rw [show j = i.toNat by omega]
      omega
  · symm
    rw [moreD, List.all_eq_true]
    intro j hj
    rw [decide_eq_true_eq]
    exact h2 j (by simp at hj; omega)
theorem h31 : c31.ok Tryd.prog GL 31 := con_ok (H := {}) (mkEnv_ok (gl := GL) (l := []) (q := []) (d := []) _ tyOk (by kernel_rfl) trivial trivial trivial) (by kernel_rfl) (by kernel_rfl) (Eq.mp e31 k31)

def t23 : Prop :=
  ∀ (x : List Int × Int × Unit),
    Kd.wf Kd.str x.fst ∧ Kd.wf (Kd.int IntKind.i64) x.snd.fst ∧ True →
      List.length x.fst ≤ (1000000000 : Nat) ∧ (0 : Int) ≤ x.snd.fst ∧ x.snd.fst < (↑(List.length x.fst) : Int) →
        ((0 : Int) ≤ x.snd.fst ∧ x.snd.fst < (↑(List.length x.fst) : Int)) ∧
          (decide (IntKind.wrap IntKind.i64 (List.getD x.fst (Int.toNat x.snd.fst) (0 : Int)) < (128 : Int)) = true → (1 : Int) = (↑(chw x.fst (Int.toNat x.snd.fst)) : Int)) ∧
            (decide (IntKind.wrap IntKind.i64 (List.getD x.fst (Int.toNat x.snd.fst) (0 : Int)) < (128 : Int)) = false →
              (decide (IntKind.wrap IntKind.i64 (List.getD x.fst (Int.toNat x.snd.fst) (0 : Int)) < (192 : Int)) = false → True) ∧
                (decide (IntKind.wrap IntKind.i64 (List.getD x.fst (Int.toNat x.snd.fst) (0 : Int)) < (192 : Int)) = false →
                    (decide (IntKind.wrap IntKind.i64 (List.getD x.fst (Int.toNat x.snd.fst) (0 : Int)) < (192 : Int)) == false) = true ∧ True) ∧
                  (decide (IntKind.wrap IntKind.i64 (List.getD x.fst (Int.toNat x.snd.fst) (0 : Int)) < (192 : Int)) = false →
                      (decide (IntKind.wrap IntKind.i64 (List.getD x.fst (Int.toNat x.snd.fst) (0 : Int)) < (192 : Int)) == false) = true) ∧
                    ((bif decide (IntKind.wrap IntKind.i64 (List.getD x.fst (Int.toNat x.snd.fst) (0 : Int)) < (192 : Int)) then true
                          else decide ((247 : Int) < IntKind.wrap IntKind.i64 (List.getD x.fst (Int.toNat x.snd.fst) (0 : Int)))) =
                          true →
                        (0 : Int) = (↑(chw x.fst (Int.toNat x.snd.fst)) : Int)) ∧
                      ((bif decide (IntKind.wrap IntKind.i64 (List.getD x.fst (Int.toNat x.snd.fst) (0 : Int)) < (192 : Int)) then true
                          else decide ((247 : Int) < IntKind.wrap IntKind.i64 (List.getD x.fst (Int.toNat x.snd.fst) (0 : Int)))) =
                          false →
                        ∃ (J : Int × Int × Unit → Unit → Prop),
                          ((decide ((224 : Int) ≤ IntKind.wrap IntKind.i64 (List.getD x.fst (Int.toNat x.snd.fst) (0 : Int))) = true →
                                Value.bool false = Value.bool false ∧
                                  Value.bool false = Value.bool false ∧
                                    IntKind.wrap IntKind.i64 (List.getD x.fst (Int.toNat x.snd.fst) (0 : Int)) = IntKind.wrap IntKind.i64 (List.getD x.fst (Int.toNat x.snd.fst) (0 : Int)) ∧
                                      (0 : Int) = (0 : Int) ∧
                                        x.fst = x.fst ∧
                                          x.snd.fst = x.snd.fst ∧
                                            J (IntKind.wrap IntKind.i64 (IntKind.wrap IntKind.i64 (List.getD x.fst (Int.toNat x.snd.fst) (0 : Int)) - (224 : Int)), (2 : Int), ()) ()) ∧
                              (decide ((224 : Int) ≤ IntKind.wrap IntKind.i64 (List.getD x.fst (Int.toNat x.snd.fst) (0 : Int))) = false →
                                Value.bool false = Value.bool false ∧
                                  Value.bool false = Value.bool false ∧
                                    IntKind.wrap IntKind.i64 (List.getD x.fst (Int.toNat x.snd.fst) (0 : Int)) = IntKind.wrap IntKind.i64 (List.getD x.fst (Int.toNat x.snd.fst) (0 : Int)) ∧
                                      (0 : Int) = (0 : Int) ∧
                                        x.fst = x.fst ∧
                                          x.snd.fst = x.snd.fst ∧
                                            J (IntKind.wrap IntKind.i64 (IntKind.wrap IntKind.i64 (List.getD x.fst (Int.toNat x.snd.fst) (0 : Int)) - (192 : Int)), (1 : Int), ()) ())) ∧
                            ∀ (u : Int × Int × Unit) (z : Unit),
                              Kd.wf (Kd.int IntKind.i64) u.fst ∧ Kd.wf (Kd.int IntKind.i64) u.snd.fst ∧ True →
                                True →
                                  J u z →
                                    ∃ (J : Int × Int × Unit → Unit → Prop),
                                      ((decide ((240 : Int) ≤ IntKind.wrap IntKind.i64 (List.getD x.fst (Int.toNat x.snd.fst) (0 : Int))) = true →
                                            Value.bool false = Value.bool false ∧
                                              Value.bool false = Value.bool false ∧
                                                IntKind.wrap IntKind.i64 (List.getD x.fst (Int.toNat x.snd.fst) (0 : Int)) = IntKind.wrap IntKind.i64 (List.getD x.fst (Int.toNat x.snd.fst) (0 : Int)) ∧
                                                  (0 : Int) = (0 : Int) ∧
                                                    x.fst = x.fst ∧
                                                      x.snd.fst = x.snd.fst ∧
                                                        J (IntKind.wrap IntKind.i64 (IntKind.wrap IntKind.i64 (List.getD x.fst (Int.toNat x.snd.fst) (0 : Int)) - (240 : Int)), (3 : Int), ()) ()) ∧
                                          (decide ((240 : Int) ≤ IntKind.wrap IntKind.i64 (List.getD x.fst (Int.toNat x.snd.fst) (0 : Int))) = false →
                                            Value.bool false = Value.bool false ∧
                                              Value.bool false = Value.bool false ∧
                                                IntKind.wrap IntKind.i64 (List.getD x.fst (Int.toNat x.snd.fst) (0 : Int)) = IntKind.wrap IntKind.i64 (List.getD x.fst (Int.toNat x.snd.fst) (0 : Int)) ∧
                                                  (0 : Int) = (0 : Int) ∧ x.fst = x.fst ∧ x.snd.fst = x.snd.fst ∧ J (u.fst, u.snd.fst, ()) ())) ∧
                                        ∀ (u : Int × Int × Unit) (z : Unit),
                                          Kd.wf (Kd.int IntKind.i64) u.fst ∧ Kd.wf (Kd.int IntKind.i64) u.snd.fst ∧ True →
                                            True →
                                              J u z →
                                                (List.length x.fst ≤ (1000000000 : Nat) ∧
                                                    (0 : Int) ≤ IntKind.wrap IntKind.i64 (x.snd.fst + (1 : Int)) ∧
                                                      IntKind.wrap IntKind.i64 (x.snd.fst + (1 : Int)) ≤ (1000000000 : Int) ∧ (0 : Int) ≤ u.snd.fst ∧ u.snd.fst ≤ (3 : Int)) ∧
                                                  (∀ (y : Bool × Unit),
                                                      Kd.wf Kd.bool y.fst ∧ True →
                                                        y.fst = moreD x.fst (Int.toNat (IntKind.wrap IntKind.i64 (x.snd.fst + (1 : Int)))) (Int.toNat u.snd.fst) →
                                                          ((!y.fst) = true → (0 : Int) = (↑(chw x.fst (Int.toNat x.snd.fst)) : Int)) ∧
                                                            ((!y.fst) = false →
                                                              ∃ (I : Int × Int × Unit → Unit → Prop),
                                                                ∃ (μ : Int × Int × Unit → Unit → Nat),
                                                                  (Value.bool false = Value.bool false ∧
                                                                      u.snd.fst = u.snd.fst ∧
                                                                        Value.bool false = Value.bool false ∧
                                                                          Value.bool false = Value.bool false ∧
                                                                            IntKind.wrap IntKind.i64 (List.getD x.fst (Int.toNat x.snd.fst) (0 : Int)) =
                                                                                IntKind.wrap IntKind.i64 (List.getD x.fst (Int.toNat x.snd.fst) (0 : Int)) ∧
                                                                              (0 : Int) = (0 : Int) ∧ x.fst = x.fst ∧ x.snd.fst = x.snd.fst ∧ I ((1 : Int), u.fst, ()) ()) ∧
                                                                    ∀ (y : Int × Int × Unit) (z : Unit),
                                                                      Kd.wf (Kd.int IntKind.i64) y.fst ∧ Kd.wf (Kd.int IntKind.i64) y.snd.fst ∧ True →
                                                                        True →
                                                                          I y z →
                                                                            (decide (y.fst ≤ u.snd.fst) = true →
                                                                                ((0 : Int) ≤ IntKind.wrap IntKind.i64 (x.snd.fst + y.fst) ∧
                                                                                    IntKind.wrap IntKind.i64 (x.snd.fst + y.fst) < (↑(List.length x.fst) : Int)) ∧
                                                                                  Value.bool false = Value.bool false ∧
                                                                                    u.snd.fst = u.snd.fst ∧
                                                                                      Value.bool false = Value.bool false ∧
                                                                                        Value.bool false = Value.bool false ∧
                                                                                          IntKind.wrap IntKind.i64 (List.getD x.fst (Int.toNat x.snd.fst) (0 : Int)) =
                                                                                              IntKind.wrap IntKind.i64 (List.getD x.fst (Int.toNat x.snd.fst) (0 : Int)) ∧
                                                                                            (0 : Int) = (0 : Int) ∧
                                                                                              x.fst = x.fst ∧
                                                                                                x.snd.fst = x.snd.fst ∧
                                                                                                  I
                                                                                                      (IntKind.wrap IntKind.i64 (y.fst + (1 : Int)),
                                                                                                        IntKind.wrap IntKind.i64
                                                                                                          (IntKind.wrap IntKind.i64
                                                                                                              (IntKind.wrap IntKind.i64 ((64 : Int) * y.snd.fst) +
                                                                                                                IntKind.wrap IntKind.i64
                                                                                                                  (List.getD x.fst (Int.toNat (IntKind.wrap IntKind.i64 (x.snd.fst + y.fst)))
                                                                                                                    (0 : Int))) -
                                                                                                            (128 : Int)),
                                                                                                        ())
                                                                                                      () ∧
                                                                                                    μ
                                                                                                        (IntKind.wrap IntKind.i64 (y.fst + (1 : Int)),
                                                                                                          IntKind.wrap IntKind.i64
                                                                                                            (IntKind.wrap IntKind.i64
                                                                                                                (IntKind.wrap IntKind.i64 ((64 : Int) * y.snd.fst) +
                                                                                                                  IntKind.wrap IntKind.i64
                                                                                                                    (List.getD x.fst (Int.toNat (IntKind.wrap IntKind.i64 (x.snd.fst + y.fst)))
                                                                                                                      (0 : Int))) -
                                                                                                              (128 : Int)),
                                                                                                          ())
                                                                                                        () <
                                                                                                      μ y z) ∧
                                                                              (decide (y.fst ≤ u.snd.fst) = false →
                                                                                ∃ (J : Int × Unit → Unit → Prop),
                                                                                  ((decide (u.snd.fst = (2 : Int)) = true →
                                                                                        Value.bool false = Value.bool false ∧
                                                                                          y.fst = y.fst ∧
                                                                                            Value.bool false = Value.bool false ∧
                                                                                              y.snd.fst = y.snd.fst ∧
                                                                                                u.snd.fst = u.snd.fst ∧
                                                                                                  Value.bool false = Value.bool false ∧
                                                                                                    Value.bool false = Value.bool false ∧
                                                                                                      IntKind.wrap IntKind.i64 (List.getD x.fst (Int.toNat x.snd.fst) (0 : Int)) =
                                                                                                          IntKind.wrap IntKind.i64 (List.getD x.fst (Int.toNat x.snd.fst) (0 : Int)) ∧
                                                                                                        (0 : Int) = (0 : Int) ∧ x.fst = x.fst ∧ x.snd.fst = x.snd.fst ∧ J ((2048 : Int), ()) ()) ∧
                                                                                      (decide (u.snd.fst = (2 : Int)) = false →
                                                                                        Value.bool false = Value.bool false ∧
                                                                                          y.fst = y.fst ∧
                                                                                            Value.bool false = Value.bool false ∧
                                                                                              y.snd.fst = y.snd.fst ∧
                                                                                                u.snd.fst = u.snd.fst ∧
                                                                                                  Value.bool false = Value.bool false ∧
                                                                                                    Value.bool false = Value.bool false ∧
                                                                                                      IntKind.wrap IntKind.i64 (List.getD x.fst (Int.toNat x.snd.fst) (0 : Int)) =
                                                                                                          IntKind.wrap IntKind.i64 (List.getD x.fst (Int.toNat x.snd.fst) (0 : Int)) ∧
                                                                                                        (0 : Int) = (0 : Int) ∧ x.fst = x.fst ∧ x.snd.fst = x.snd.fst ∧ J ((128 : Int), ()) ())) ∧
                                                                                    ∀ (u_1 : Int × Unit) (z : Unit),
                                                                                      Kd.wf (Kd.int IntKind.i64) u_1.fst ∧ True →
                                                                                        True →
                                                                                          J u_1 z →
                                                                                            ∃ (J : Int × Unit → Unit → Prop),
                                                                                              ((decide (u.snd.fst = (3 : Int)) = true →
                                                                                                    Value.bool false = Value.bool false ∧
                                                                                                      y.fst = y.fst ∧
                                                                                                        Value.bool false = Value.bool false ∧
                                                                                                          y.snd.fst = y.snd.fst ∧
                                                                                                            u.snd.fst = u.snd.fst ∧
                                                                                                              Value.bool false = Value.bool false ∧
                                                                                                                Value.bool false = Value.bool false ∧
                                                                                                                  IntKind.wrap IntKind.i64 (List.getD x.fst (Int.toNat x.snd.fst) (0 : Int)) =
                                                                                                                      IntKind.wrap IntKind.i64 (List.getD x.fst (Int.toNat x.snd.fst) (0 : Int)) ∧
                                                                                                                    (0 : Int) = (0 : Int) ∧
                                                                                                                      x.fst = x.fst ∧ x.snd.fst = x.snd.fst ∧ J ((65536 : Int), ()) ()) ∧
                                                                                                  (decide (u.snd.fst = (3 : Int)) = false →
                                                                                                    Value.bool false = Value.bool false ∧
                                                                                                      y.fst = y.fst ∧
                                                                                                        Value.bool false = Value.bool false ∧
                                                                                                          y.snd.fst = y.snd.fst ∧
                                                                                                            u.snd.fst = u.snd.fst ∧
                                                                                                              Value.bool false = Value.bool false ∧
                                                                                                                Value.bool false = Value.bool false ∧
                                                                                                                  IntKind.wrap IntKind.i64 (List.getD x.fst (Int.toNat x.snd.fst) (0 : Int)) =
                                                                                                                      IntKind.wrap IntKind.i64 (List.getD x.fst (Int.toNat x.snd.fst) (0 : Int)) ∧
                                                                                                                    (0 : Int) = (0 : Int) ∧ x.fst = x.fst ∧ x.snd.fst = x.snd.fst ∧ J (u_1.fst, ()) ())) ∧
                                                                                                ∀ (u_2 : Int × Unit) (z : Unit),
                                                                                                  Kd.wf (Kd.int IntKind.i64) u_2.fst ∧ True →
                                                                                                    True →
                                                                                                      J u_2 z →
                                                                                                        (decide (y.snd.fst < u_2.fst) = false → True) ∧
                                                                                                          (decide (y.snd.fst < u_2.fst) = false → (decide (y.snd.fst < u_2.fst) == false) = true ∧ True) ∧
                                                                                                            (decide (y.snd.fst < u_2.fst) = false → (decide (y.snd.fst < u_2.fst) == false) = true) ∧
                                                                                                              ((bif decide (y.snd.fst < u_2.fst) then true else decide ((1114111 : Int) < y.snd.fst)) =
                                                                                                                    false →
                                                                                                                  True) ∧
                                                                                                                ((bif decide (y.snd.fst < u_2.fst) then true else decide ((1114111 : Int) < y.snd.fst)) =
                                                                                                                      false →
                                                                                                                    ((bif decide (y.snd.fst < u_2.fst) then true
                                                                                                                          else decide ((1114111 : Int) < y.snd.fst)) ==
                                                                                                                          false) =
                                                                                                                        true ∧
                                                                                                                      True) ∧
                                                                                                                  ((bif decide (y.snd.fst < u_2.fst) then true
                                                                                                                        else decide ((1114111 : Int) < y.snd.fst)) =
                                                                                                                        false →
                                                                                                                      True) ∧
                                                                                                                    (((bif decide (y.snd.fst < u_2.fst) then true
                                                                                                                              else decide ((1114111 : Int) < y.snd.fst)) ==
                                                                                                                              false &&
                                                                                                                            (bif decide (y.snd.fst < u_2.fst) then true
                                                                                                                              else decide ((1114111 : Int) < y.snd.fst)) ==
                                                                                                                              false) =
                                                                                                                          true →
                                                                                                                        decide ((55296 : Int) ≤ y.snd.fst) = true → True) ∧
                                                                                                                      (((bif decide (y.snd.fst < u_2.fst) then true
                                                                                                                                else decide ((1114111 : Int) < y.snd.fst)) ==
                                                                                                                                false &&
                                                                                                                              (bif decide (y.snd.fst < u_2.fst) then true
                                                                                                                                else decide ((1114111 : Int) < y.snd.fst)) ==
                                                                                                                                false) =
                                                                                                                            true →
                                                                                                                          decide ((55296 : Int) ≤ y.snd.fst) = true →
                                                                                                                            ((bif decide (y.snd.fst < u_2.fst) then true
                                                                                                                                      else decide ((1114111 : Int) < y.snd.fst)) ==
                                                                                                                                      false &&
                                                                                                                                    (bif decide (y.snd.fst < u_2.fst) then true
                                                                                                                                      else decide ((1114111 : Int) < y.snd.fst)) ==
                                                                                                                                      false &&
                                                                                                                                  decide ((55296 : Int) ≤ y.snd.fst) == true) =
                                                                                                                                true ∧
                                                                                                                              True) ∧
                                                                                                                        ((bif decide (y.snd.fst < u_2.fst) then true
                                                                                                                              else decide ((1114111 : Int) < y.snd.fst)) =
                                                                                                                              false →
                                                                                                                            ((bif decide (y.snd.fst < u_2.fst) then true
                                                                                                                                    else decide ((1114111 : Int) < y.snd.fst)) ==
                                                                                                                                    false &&
                                                                                                                                  (bif decide (y.snd.fst < u_2.fst) then true
                                                                                                                                    else decide ((1114111 : Int) < y.snd.fst)) ==
                                                                                                                                    false) =
                                                                                                                                true ∧
                                                                                                                              (decide ((55296 : Int) ≤ y.snd.fst) = true →
                                                                                                                                  ((bif decide (y.snd.fst < u_2.fst) then true
                                                                                                                                          else decide ((1114111 : Int) < y.snd.fst)) ==
                                                                                                                                          false &&
                                                                                                                                        (bif decide (y.snd.fst < u_2.fst) then true
                                                                                                                                          else decide ((1114111 : Int) < y.snd.fst)) ==
                                                                                                                                          false &&
                                                                                                                                      decide ((55296 : Int) ≤ y.snd.fst) == true) =
                                                                                                                                    true) ∧
                                                                                                                                True) ∧
                                                                                                                          ((bif decide (y.snd.fst < u_2.fst) then true
                                                                                                                                else decide ((1114111 : Int) < y.snd.fst)) =
                                                                                                                                false →
                                                                                                                              ((bif decide (y.snd.fst < u_2.fst) then true
                                                                                                                                  else decide ((1114111 : Int) < y.snd.fst)) ==
                                                                                                                                  false) =
                                                                                                                                true) ∧
                                                                                                                            ((bif
                                                                                                                                      bif decide (y.snd.fst < u_2.fst) then true
                                                                                                                                      else decide ((1114111 : Int) < y.snd.fst) then
                                                                                                                                    true
                                                                                                                                  else
                                                                                                                                    bif decide ((55296 : Int) ≤ y.snd.fst) then
                                                                                                                                      decide (y.snd.fst ≤ (57343 : Int))
                                                                                                                                    else false) =
                                                                                                                                  true →
                                                                                                                                (0 : Int) = (↑(chw x.fst (Int.toNat x.snd.fst)) : Int)) ∧
                                                                                                                              ((bif
                                                                                                                                      bif decide (y.snd.fst < u_2.fst) then true
                                                                                                                                      else decide ((1114111 : Int) < y.snd.fst) then
                                                                                                                                    true
                                                                                                                                  else
                                                                                                                                    bif decide ((55296 : Int) ≤ y.snd.fst) then
                                                                                                                                      decide (y.snd.fst ≤ (57343 : Int))
                                                                                                                                    else false) =
                                                                                                                                  false →
                                                                                                                                IntKind.wrap IntKind.i64 (u.snd.fst + (1 : Int)) =
                                                                                                                                  (↑(chw x.fst (Int.toNat x.snd.fst)) : Int))))) ∧
                                                    True))
theorem e23 : t23 = Con.vc c23 GL (mkEnv ty [(31, conSem c31)] [] [] [0, 1, 4, 5, 6, 7, 8, 9, 15, 21, 25, 29, 37, 40, 54, 56, 71]) {joins := [9,11,20,22]} Tryd.f23.ntmps Tryd.f23.results.toList (bodyOf Tryd.f23) := by kernel_rfl
theorem k23 : t23 := by
  unfold t23
  rintro ⟨l, p, _⟩ hx hp
  have hw : Kd.wf Kd.str l := hx.1
  obtain ⟨hl, hp0, hp1⟩ := hp
  simp only at hp0 hp1 hl
  try dsimp +instances only [dft_int, dft_sl, dft_str]
  simp only [true_and, and_true, eq_self_iff_true, implies_true, reduceCtorEq, false_implies, true_implies, decide_eq_true_eq, decide_eq_false_iff_not, beq_self_eq_true, Bool.not_eq_true', ne_eq, Decidable.not_not, List.nil_append, List.length_singleton, List.length_cons, List.length_nil, Nat.zero_add, Nat.add_zero, Nat.mul_one, and_self, beq_iff_eq, Bool.not_true, Bool.not_false, Bool.not_eq_false', Bool.cond_false_right, Bool.and_eq_true, imp_self, Bool.not_eq_true, Bool.cond_true_left, Bool.or_eq_true]
  obtain ⟨i, rfl⟩ : ∃ i : Nat, p = i := ⟨p.toNat, by omega⟩
  rw [Int.toNat_natCast]
  have hi : i < l.length := by omega
  have hc := str_get hw i
  have hwc : IntKind.wrap .i64 (l.getD i 0) = l.getD i 0 := wrapK _ (by omega) (by omega)
  have hw1 : IntKind.wrap .i64 ((i : Int) + 1) = i + 1 := wrapK _ (by omega) (by omega)
  have e1' : ((i : Int) + 1).toNat = i + 1 := by omega
  rw [hwc, hw1, e1', wrapK (l.getD i 0 - 224) (by omega) (by omega), wrapK (l.getD i 0 - 192) (by omega) (by omega), wrapK (l.getD i 0 - 240) (by omega) (by omega)]
  refine ⟨⟨by omega, by omega⟩, fun h => ?_, fun hge => ⟨fun h => ?_, fun h => ?_⟩⟩
  · obtain ⟨b0, e0, g0⟩ := nat_of l hw i
    obtain ⟨b1, e1, g1⟩ := nat_of l hw (i + 1)
    obtain ⟨b2, e2, g2⟩ := nat_of l hw (i + 2)
    obtain ⟨b3, e3, g3⟩ := nat_of l hw (i + 3)
    rw [chw_at l i e0 e1 e2 e3, dec_low (by omega)]; rfl
  · obtain ⟨b0, e0, g0⟩ := nat_of l hw i
    obtain ⟨b1, e1, g1⟩ := nat_of l hw (i + 1)
    obtain ⟨b2, e2, g2⟩ := nat_of l hw (i + 2)
    obtain ⟨b3, e3, g3⟩ := nat_of l hw (i + 3)
    rw [chw_at l i e0 e1 e2 e3, dec_bad (by omega)]; rfl
  have h0 : 192 ≤ l.getD i 0 ∧ l.getD i 0 ≤ 247 := by
    simp only [Bool.or_eq_false_iff, decide_eq_false_iff_not] at h
    omega
  refine ⟨fun u _ => u.2.1 = 1 ∧ l.getD i 0 < 224 ∧ u.1 = l.getD i 0 - 192 ∨ u.2.1 = 2 ∧ 224 ≤ l.getD i 0 ∧ u.1 = l.getD i 0 - 224, ⟨fun h => .inr ⟨rfl, h, rfl⟩, fun h => .inl ⟨rfl, by omega, rfl⟩⟩, ?_⟩
  rintro ⟨v, n, _⟩ _ _ hJ
  refine ⟨fun u _ => u.2.1 = 1 ∧ l.getD i 0 < 224 ∧ u.1 = l.getD i 0 - 192 ∨ u.2.1 = 2 ∧ 224 ≤ l.getD i 0 ∧ l.getD i 0 < 240 ∧ u.1 = l.getD i 0 - 224 ∨ u.2.1 = 3 ∧ 240 ≤ l.getD i 0 ∧ u.1 = l.getD i 0 - 240, ⟨fun h => .inr (.inr ⟨rfl, h, rfl⟩), fun h => ?_⟩, ?_⟩
  · simp only at hJ ⊢
    omega
  clear hJ
  rintro ⟨v, n, _⟩ _ _ hJ
  simp only at hJ ⊢
  refine ⟨⟨hl, by omega, by omega, by omega, by omega⟩, ?_⟩
  rintro ⟨m, _⟩ _ em
  simp only at em ⊢
  refine ⟨fun h => ?_, fun h => ?_⟩
  · rw [chw_mid hw hi h0 (by omega) (em.symm.trans h)]; rfl
  have hm := em.symm.trans h
  have hm2 := (more_iff l (i + 1) n.toNat).1 hm
  refine ⟨fun y _ => 1 ≤ y.1 ∧ y.1 ≤ n + 1 ∧ y.2.1 = valK v (l.getD (i + 1) 0) (l.getD (i + 2) 0) (l.getD (i + 3) 0) y.1, fun y _ => (n + 1 - y.1).toNat, ⟨by omega, by omega, rfl⟩, ?_⟩
  rintro ⟨k, a, _⟩ _ _ ⟨k1, k2, ek⟩
  simp only at k1 k2 ek ⊢
  refine ⟨fun hk => ?_, fun hk => ?_⟩
  · obtain ⟨m1, m2, m3⟩ := hm2 (k - 1).toNat (by omega)
    have ei : i + 1 + (k - 1).toNat = ((i : Int) + k).toNat := by omega
    rw [ei] at m1 m2 m3
    have hbd : ∀ j, 0 ≤ l.getD j 0 ∧ l.getD j 0 ≤ 255 := str_get hw
    have b1 := hbd (i + 1)
    have b2 := hbd (i + 2)
    have b3 := hbd (i + 3)
    have ha : -100000 ≤ a ∧ a ≤ 10000000 := by
      rw [ek]
      unfold valK
      split
      · omega
      · split
        · omega
        · split <;> omega
    have e1 : IntKind.wrap .i64 ((i : Int) + k) = i + k := wrapK _ (by omega) (by omega)
    have e2 : IntKind.wrap .i64 (k + 1) = k + 1 := wrapK _ (by omega) (by omega)
    have e3 : IntKind.wrap .i64 (64 * a) = 64 * a := wrapK _ (by omega) (by omega)
    have e4 : IntKind.wrap .i64 (l.getD ((i : Int) + k).toNat 0) = l.getD ((i : Int) + k).toNat 0 := wrapK _ (by omega) (by omega)
    rw [e1, e2, e3, e4, wrapK (64 * a + l.getD ((i : Int) + k).toNat 0) (by omega) (by omega), wrapK (64 * a + l.getD ((i : Int) + k).toNat 0 - 128) (by omega) (by omega)]
    refine ⟨⟨by omega, by omega⟩, ⟨by omega, by omega, ?_⟩, by omega⟩
    rcases (show k = 1 ∨ k = 2 ∨ k = 3 by omega) with rfl | rfl | rfl
    · rw [show ((i : Int) + 1).toNat = i + 1 by omega, ek]; rfl
    · rw [show ((i : Int) + 2).toNat = i + 2 by omega, ek]; rfl
    · rw [show ((i : Int) + 3).toNat = i + 3 by omega, ek]; rfl
  · obtain rfl : k = n + 1 := by omega
    refine ⟨fun u _ => n = 2 ∧ u.1 = 2048 ∨ n ≠ 2 ∧ u.1 = 128, ⟨fun h => .inl ⟨h, rfl⟩, fun h => .inr ⟨h, rfl⟩⟩, ?_⟩
    rintro ⟨b, _⟩ _ _ hJ1
    refine ⟨fun u _ => n = 1 ∧ u.1 = 128 ∨ n = 2 ∧ u.1 = 2048 ∨ n = 3 ∧ u.1 = 65536, ⟨fun h => .inr (.inr ⟨h, rfl⟩), fun h => by simp only at hJ1 ⊢; omega⟩, ?_⟩
    clear hJ1
    rintro ⟨b, _⟩ _ _ hJ1
    simp only at hJ1 ⊢
    have key := chw_end hw hi (n := n) (v0 := v) (least := b) h0 (by omega) hm
    rw [← ek] at key
    rw [key, wrapK (n + 1) (by omega) (by omega)]
    refine ⟨fun h1 h2 => ⟨h1, h2⟩, fun h1 => ⟨h1, fun h2 => ⟨h1, h2⟩⟩, fun h1 => ?_, fun h1 => ?_⟩
    · rw [if_pos (by omega)]
    · simp only [Bool.or_eq_false_iff, Bool.and_eq_false_iff, decide_eq_false_iff_not] at h1
      rw [if_neg (by omega)]
theorem h23 : c23.ok Tryd.prog GL 23 := con_ok (H := {joins := [9,11,20,22]}) (mkEnv_ok (gl := GL) (l := [(31, conSem c31)]) (q := []) (d := []) _ tyOk (by kernel_rfl) ⟨h31.call, trivial⟩ trivial trivial) (by kernel_rfl) (by kernel_rfl) (Eq.mp e23 k23)

def t11 : Prop :=
  ∀ (x : List Int × Unit),
    Kd.wf Kd.str x.fst ∧ True →
      List.length x.fst ≤ (1000000000 : Nat) →
        ∃ (I : Int × Int × Unit → Unit → Prop),
          ∃ (μ : Int × Int × Unit → Unit → Nat),
            (x.fst = x.fst ∧ I ((0 : Int), (0 : Int), ()) ()) ∧
              ∀ (y : Int × Int × Unit) (z : Unit),
                Kd.wf (Kd.int IntKind.i64) y.fst ∧ Kd.wf (Kd.int IntKind.i64) y.snd.fst ∧ True →
                  True →
                    I y z →
                      (decide (y.fst < (↑(List.length x.fst) : Int)) = true →
                          (List.length x.fst ≤ (1000000000 : Nat) ∧ (0 : Int) ≤ y.fst ∧ y.fst < (↑(List.length x.fst) : Int)) ∧
                            (∀ (y_1 : Int × Unit),
                                Kd.wf (Kd.int IntKind.i64) y_1.fst ∧ True →
                                  y_1.fst = (↑(chw x.fst (Int.toNat y.fst)) : Int) →
                                    (decide (y_1.fst = (0 : Int)) = true → y.fst = (↑(vld x.fst (0 : Nat)) : Int)) ∧
                                      (decide (y_1.fst = (0 : Int)) = false →
                                        x.fst = x.fst ∧ I (IntKind.wrap IntKind.i64 (y.fst + y_1.fst), y.snd.fst, ()) () ∧ μ (IntKind.wrap IntKind.i64 (y.fst + y_1.fst), y.snd.fst, ()) () < μ y z)) ∧
                              True) ∧
                        (decide (y.fst < (↑(List.length x.fst) : Int)) = false → y.fst = (↑(vld x.fst (0 : Nat)) : Int))
theorem e11 : t11 = Con.vc c11 GL (mkEnv ty [(23, conSem c23)] [] [] [0, 2, 3, 4, 8, 13]) {} Tryd.f11.ntmps Tryd.f11.results.toList (bodyOf Tryd.f11) := by kernel_rfl
theorem k11 : t11 := by
  unfold t11
  rintro ⟨l, _⟩ hx hp
  have hp : l.length ≤ 1000000000 := hp
  try dsimp +instances only [dft_int, dft_sl, dft_str]
  simp only [true_and, and_true, eq_self_iff_true, implies_true, reduceCtorEq, false_implies, true_implies, decide_eq_true_eq, decide_eq_false_iff_not, beq_self_eq_true, Bool.not_eq_true', ne_eq, Decidable.not_not, List.nil_append, List.length_singleton, List.length_cons, List.length_nil, Nat.zero_add, Nat.add_zero, Nat.mul_one, and_self, beq_iff_eq, Bool.not_true, Bool.not_false, Bool.not_eq_false', Bool.cond_false_right, Bool.and_eq_true, imp_self, Bool.not_eq_true, Bool.cond_true_left, Bool.or_eq_true]
  refine ⟨fun y _ => 0 ≤ y.1 ∧ y.1 ≤ l.length ∧ vld l 0 = vld l y.1.toNat, fun y _ => ((l.length : Int) - y.1).toNat, ⟨by omega, by omega, rfl⟩, ?_⟩
  rintro ⟨i, r, _⟩ z _ ⟨h0, h1, h2⟩
  simp only at h0 h1 h2 ⊢
  refine ⟨fun hlt => ⟨⟨hp, h0, hlt⟩, ?_⟩, fun hge => ?_⟩
  · rintro ⟨c, _⟩ _ ec
    simp only at ec ⊢
    have hil : i.toNat < l.length := by omega
    have hle := chw_le l i.toNat hil
    refine ⟨fun h => ?_, fun h => ?_⟩
    · rw [h2, vld_stop (fun hc => hc.2 (by omega))]
      omega
    · have hw : IntKind.wrap .i64 (i + c) = i + c := wrapK _ (by omega) (by omega)
      rw [hw]
      refine ⟨⟨by omega, by omega, ?_⟩, by omega⟩
      rw [h2, vld_step hil (by omega)]
      congr 1
      omega
  · rw [h2, vld_stop (fun hc => by omega)]
    omega
theorem h11 : c11.ok Tryd.prog GL 11 := con_ok (H := {}) (mkEnv_ok (gl := GL) (l := [(23, conSem c23)]) (q := []) (d := []) _ tyOk (by kernel_rfl) ⟨h23.call, trivial⟩ trivial trivial) (by kernel_rfl) (by kernel_rfl) (Eq.mp e11 k11)

theorem h33 : CallOk Tryd.prog GL 33 (conSem c33) := by
  refine ext_ok (ks := [Kd.str, U8]) (k := I64) rfl ?_
  rintro w F ⟨l, c, u⟩ vs h _
  obtain ⟨v1, r1, rfl, h1, v2, r2, rfl, h2, rfl⟩ := h
  obtain ⟨s, rfl, rfl, hs⟩ := VRep_str.1 h1
  obtain ⟨rfl, hc⟩ := VRep_int.1 h2
  have hc2 : 0 ≤ c ∧ c ≤ 255 := by
    simpa [InR, IntKind.min, IntKind.max, IntKind.signed, IntKind.bits] using hc
  refine ⟨_, (Lib.indexByte s.data.toList c.toNat.toUInt8 : Int), ?_, idx_eq _ _ hc2, VRep_int.2 ⟨rfl, ?_⟩⟩
  · rw [run_callFunc_extern Tryd.func33 (by kernel_rfl) (by kernel_rfl) (by kernel_rfl) (e := Extern.BytealgIndexByte.indexByte) (by kernel_rfl)]
    show ((Extern.BytealgIndexByte.indexByte #[.string s, .int .u8 c]).run Tryd.prog w).andThen _ = _
    rw [Lib.run_indexByteString]
    rfl
  · have h1 := idx_rng s.data.toList c.toNat.toUInt8
    have h3 : s.data.toList.length ≤ 9223372036854775807 := hs
    generalize Lib.indexByte s.data.toList c.toNat.toUInt8 = r at h1 ⊢
    simp [InR, IntKind.min, IntKind.max, IntKind.signed, IntKind.bits]
    omega
def t32 : Prop :=
  ∀ (x : List Int × Int × Unit),
    Kd.wf Kd.str x.fst ∧ Kd.wf (Kd.int IntKind.u8) x.snd.fst ∧ True →
      True → True ∧ (∀ (y : Int × Unit), Kd.wf (Kd.int IntKind.i64) y.fst ∧ True → y.fst = idxB x.fst x.snd.fst → y.fst = idxB x.fst x.snd.fst) ∧ True
theorem e32 : t32 = Con.vc c32 GL (mkEnv ty [(33, conSem c33)] [] [] [0, 1, 4]) {} Tryd.f32.ntmps Tryd.f32.results.toList (bodyOf Tryd.f32) := by kernel_rfl
theorem k32 : t32 := by
  unfold t32
  rintro ⟨l, m, _⟩ hx hp
  try dsimp +instances only [dft_int, dft_sl, dft_str]
  simp only [true_and, and_true, eq_self_iff_true, implies_true, reduceCtorEq, false_implies, true_implies, decide_eq_true_eq, decide_eq_false_iff_not, beq_self_eq_true, Bool.not_eq_true', ne_eq, Decidable.not_not, List.nil_append, List.length_singleton, List.length_cons, List.length_nil, Nat.zero_add, Nat.add_zero, Nat.mul_one, and_self, beq_iff_eq, Bool.not_true, Bool.not_false, Bool.not_eq_false', Bool.cond_false_right, Bool.and_eq_true, imp_self, Bool.not_eq_true, Bool.cond_true_left, Bool.or_eq_true]
theorem h32 : c32.ok Tryd.prog GL 32 := con_ok (H := {}) (mkEnv_ok (gl := GL) (l := [(33, conSem c33)]) (q := []) (d := []) _ tyOk (by kernel_rfl) ⟨h33, trivial⟩ trivial trivial) (by kernel_rfl) (by kernel_rfl) (Eq.mp e32 k32)

def t26 : Prop :=
  ∀ (x : List Int × Int × Unit),
    Kd.wf Kd.str x.fst ∧ Kd.wf (Kd.int IntKind.u8) x.snd.fst ∧ True →
      True → True ∧ (∀ (y : Int × Unit), Kd.wf (Kd.int IntKind.i64) y.fst ∧ True → y.fst = idxB x.fst x.snd.fst → y.fst = idxB x.fst x.snd.fst) ∧ True
theorem e26 : t26 = Con.vc c26 GL (mkEnv ty [(32, conSem c32)] [] [] [0, 1, 4]) {} Tryd.f26.ntmps Tryd.f26.results.toList (bodyOf Tryd.f26) := by kernel_rfl
theorem k26 : t26 := by
  unfold t26
  rintro ⟨l, m, _⟩ hx hp
  try dsimp +instances only [dft_int, dft_sl, dft_str]
  simp only [true_and, and_true, eq_self_iff_true, implies_true, reduceCtorEq, false_implies, true_implies, decide_eq_true_eq, decide_eq_false_iff_not, beq_self_eq_true, Bool.not_eq_true', ne_eq, Decidable.not_not, List.nil_append, List.length_singleton, List.length_cons, List.length_nil, Nat.zero_add, Nat.add_zero, Nat.mul_one, and_self, beq_iff_eq, Bool.not_true, Bool.not_false, Bool.not_eq_false', Bool.cond_false_right, Bool.and_eq_true, imp_self, Bool.not_eq_true, Bool.cond_true_left, Bool.or_eq_true]
theorem h26 : c26.ok Tryd.prog GL 26 := con_ok (H := {}) (mkEnv_ok (gl := GL) (l := [(32, conSem c32)]) (q := []) (d := []) _ tyOk (by kernel_rfl) ⟨h32.call, trivial⟩ trivial trivial) (by kernel_rfl) (by kernel_rfl) (Eq.mp e26 k26)

def t27 : Prop :=
  ∀ (x : Int × Unit),
    Kd.wf (Kd.int IntKind.u8) x.fst ∧ True →
      True →
        (decide ((65 : Int) ≤ x.fst) = true → True) ∧
          (decide ((65 : Int) ≤ x.fst) = true → (decide ((65 : Int) ≤ x.fst) == true) = true ∧ True) ∧
            (decide ((65 : Int) ≤ x.fst) = true → (decide ((65 : Int) ≤ x.fst) == true) = true) ∧
              ((bif decide ((65 : Int) ≤ x.fst) then decide (x.fst ≤ (90 : Int)) else false) = true →
                  IntKind.wrap IntKind.u8 (IntKind.wrap IntKind.u8 (x.fst + (97 : Int)) - (65 : Int)) = smallD x.fst) ∧
                ((bif decide ((65 : Int) ≤ x.fst) then decide (x.fst ≤ (90 : Int)) else false) = false → x.fst = smallD x.fst)
theorem e27 : t27 = Con.vc c27 GL (mkEnv ty [] [] [] [0, 2, 8]) {} Tryd.f27.ntmps Tryd.f27.results.toList (bodyOf Tryd.f27) := by kernel_rfl
theorem k27 : t27 := by
  unfold t27
  rintro ⟨l, _⟩ hx hp
  try dsimp +instances only [dft_int, dft_sl, dft_str]
  simp only [true_and, and_true, eq_self_iff_true, implies_true, reduceCtorEq, false_implies, true_implies, decide_eq_true_eq, decide_eq_false_iff_not, beq_self_eq_true, Bool.not_eq_true', ne_eq, Decidable.not_not, List.nil_append, List.length_singleton, List.length_cons, List.length_nil, Nat.zero_add, Nat.add_zero, Nat.mul_one, and_self, beq_iff_eq, Bool.not_true, Bool.not_false, Bool.not_eq_false', Bool.cond_false_right, Bool.and_eq_true, imp_self, Bool.not_eq_true, Bool.cond_true_left, Bool.or_eq_true]
  refine ⟨fun h => ?_, fun h => ?_⟩
  · rw [smallD, if_pos h]
    simp [IntKind.wrap, IntKind.signed, IntKind.bits]
    omega
  · rw [smallD, if_neg (fun hc => by
      rcases Bool.and_eq_false_iff.1 h with h | h
      · exact of_decide_eq_false h hc.1
      · exact of_decide_eq_false h hc.2)]
theorem h27 : c27.ok Tryd.prog GL 27 := con_ok (H := {}) (mkEnv_ok (gl := GL) (l := []) (q := []) (d := []) _ tyOk (by kernel_rfl) trivial trivial trivial) (by kernel_rfl) (by kernel_rfl) (Eq.mp e27 k27)

def t28 : Prop :=
  ∀ (x : Int × Unit),
    Kd.wf (Kd.int IntKind.u8) x.fst ∧ True →
      True →
        (decide ((97 : Int) ≤ x.fst) = true → True) ∧
          (decide ((97 : Int) ≤ x.fst) = true → (decide ((97 : Int) ≤ x.fst) == true) = true ∧ True) ∧
            (decide ((97 : Int) ≤ x.fst) = true → (decide ((97 : Int) ≤ x.fst) == true) = true) ∧
              ((bif decide ((97 : Int) ≤ x.fst) then decide (x.fst ≤ (122 : Int)) else false) = true → true = printsD x.fst) ∧
                ((bif decide ((97 : Int) ≤ x.fst) then decide (x.fst ≤ (122 : Int)) else false) = false →
                  (decide ((65 : Int) ≤ x.fst) = true → True) ∧
                    (decide ((65 : Int) ≤ x.fst) = true → (decide ((65 : Int) ≤ x.fst) == true) = true ∧ True) ∧
                      (decide ((65 : Int) ≤ x.fst) = true → (decide ((65 : Int) ≤ x.fst) == true) = true) ∧
                        ((bif decide ((65 : Int) ≤ x.fst) then decide (x.fst ≤ (90 : Int)) else false) = true → true = printsD x.fst) ∧
                          ((bif decide ((65 : Int) ≤ x.fst) then decide (x.fst ≤ (90 : Int)) else false) = false →
                            (decide ((48 : Int) ≤ x.fst) = true → True) ∧
                              (decide ((48 : Int) ≤ x.fst) = true → (decide ((48 : Int) ≤ x.fst) == true) = true ∧ True) ∧
                                (decide ((48 : Int) ≤ x.fst) = true → (decide ((48 : Int) ≤ x.fst) == true) = true) ∧
                                  ((bif decide ((48 : Int) ≤ x.fst) then decide (x.fst ≤ (57 : Int)) else false) = true → true = printsD x.fst) ∧
                                    ((bif decide ((48 : Int) ≤ x.fst) then decide (x.fst ≤ (57 : Int)) else false) = false →
                                      (decide (x.fst ≠ (0 : Int)) = true → True) ∧
                                        (decide (x.fst ≠ (0 : Int)) = true →
                                            (decide (x.fst ≠ (0 : Int)) == true) = true ∧
                                              True ∧
                                                (∀ (y : Int × Unit),
                                                    Kd.wf (Kd.int IntKind.i64) y.fst ∧ True →
                                                      y.fst =
                                                          idxB
                                                            (bs
                                                              {
                                                                data :=
                                                                  #[(32 : UInt8), (39 : UInt8), (40 : UInt8), (41 : UInt8), (43 : UInt8), (44 : UInt8), (45 : UInt8), (46 : UInt8), (47 : UInt8),
                                                                    (58 : UInt8), (61 : UInt8), (63 : UInt8)] })
                                                            x.fst →
                                                        decide ((0 : Int) ≤ y.fst) = printsD x.fst) ∧
                                                  True) ∧
                                          (decide (x.fst ≠ (0 : Int)) = !true → false = printsD x.fst))))
theorem e28 : t28 = Con.vc c28 GL (mkEnv ty [(26, conSem c26)] [] [] [0, 2, 3]) {} Tryd.f28.ntmps Tryd.f28.results.toList (bodyOf Tryd.f28) := by kernel_rfl
theorem k28 : t28 := by
  unfold t28
  rintro ⟨c, _⟩ hx hp
  have hc : 0 ≤ c ∧ c ≤ 255 := by
    have h : InR .u8 c := hx.1
    simpa [InR, IntKind.min, IntKind.max, IntKind.signed, IntKind.bits] using h
  try dsimp +instances only [dft_int, dft_sl, dft_str]
  simp only [true_and, and_true, eq_self_iff_true, implies_true, reduceCtorEq, false_implies, true_implies, decide_eq_true_eq, decide_eq_false_iff_not, beq_self_eq_true, Bool.not_eq_true', ne_eq, Decidable.not_not, List.nil_append, List.length_singleton, List.length_cons, List.length_nil, Nat.zero_add, Nat.add_zero, Nat.mul_one, and_self, beq_iff_eq, Bool.not_true, Bool.not_false, Bool.not_eq_false', Bool.cond_false_right, Bool.and_eq_true, imp_self, Bool.not_eq_true, Bool.cond_true_left, Bool.or_eq_true]
  have key : ∀ c : Fin 256, decide (0 ≤ idxB (bs { data := #[32, 39, 40, 41, 43, 44, 45, 46, 47, 58, 61, 63] }) (c.val : Int)) = true → printsD (c.val : Int) = true := by decide +kernel
  have key2 : ∀ c : Fin 256, ((decide (97 ≤ (c.val : Int)) && decide ((c.val : Int) ≤ 122)) = false) → ((decide (65 ≤ (c.val : Int)) && decide ((c.val : Int) ≤ 90)) = false) → ((decide (48 ≤ (c.val : Int)) && decide ((c.val : Int) ≤ 57)) = false) → decide (0 ≤ idxB (bs { data := #[32, 39, 40, 41, 43, 44, 45, 46, 47, 58, 61, 63] }) (c.val : Int)) = printsD (c.val : Int) := by decide +kernel
  have k2 := key2 ⟨c.toNat, by omega⟩
  simp only [Int.toNat_of_nonneg hc.1] at k2
  refine ⟨fun h => by simp [printsD, h], fun h1 => ⟨fun h => by simp [printsD, h], fun h2 => ⟨fun h => by simp [printsD, h], fun h3 => ⟨fun h => ⟨h, fun y _ ey => by rw [ey]; exact k2 h1 h2 h3⟩, fun h => by subst h; decide⟩⟩⟩⟩
theorem h28 : c28.ok Tryd.prog GL 28 := con_ok (H := {}) (mkEnv_ok (gl := GL) (l := [(26, conSem c26)]) (q := []) (d := []) _ tyOk (by kernel_rfl) ⟨h26.call, trivial⟩ trivial trivial) (by kernel_rfl) (by kernel_rfl) (Eq.mp e28 k28)

def t29 : Prop :=
  ∀ (x : Int × Unit),
    Kd.wf (Kd.int IntKind.u8) x.fst ∧ True →
      True →
        (decide ((97 : Int) ≤ x.fst) = true → True) ∧
          (decide ((97 : Int) ≤ x.fst) = true → (decide ((97 : Int) ≤ x.fst) == true) = true ∧ True) ∧
            (decide ((97 : Int) ≤ x.fst) = true → (decide ((97 : Int) ≤ x.fst) == true) = true) ∧
              ((bif decide ((97 : Int) ≤ x.fst) then decide (x.fst ≤ (122 : Int)) else false) = false → True) ∧
                ((bif decide ((97 : Int) ≤ x.fst) then decide (x.fst ≤ (122 : Int)) else false) = false →
                    ((bif decide ((97 : Int) ≤ x.fst) then decide (x.fst ≤ (122 : Int)) else false) == false) = true ∧ True) ∧
                  ((bif decide ((97 : Int) ≤ x.fst) then decide (x.fst ≤ (122 : Int)) else false) = false → True) ∧
                    (((bif decide ((97 : Int) ≤ x.fst) then decide (x.fst ≤ (122 : Int)) else false) == false &&
                            (bif decide ((97 : Int) ≤ x.fst) then decide (x.fst ≤ (122 : Int)) else false) == false) =
                          true →
                        decide ((65 : Int) ≤ x.fst) = true → True) ∧
                      (((bif decide ((97 : Int) ≤ x.fst) then decide (x.fst ≤ (122 : Int)) else false) == false &&
                              (bif decide ((97 : Int) ≤ x.fst) then decide (x.fst ≤ (122 : Int)) else false) == false) =
                            true →
                          decide ((65 : Int) ≤ x.fst) = true →
                            ((bif decide ((97 : Int) ≤ x.fst) then decide (x.fst ≤ (122 : Int)) else false) == false &&
                                    (bif decide ((97 : Int) ≤ x.fst) then decide (x.fst ≤ (122 : Int)) else false) == false &&
                                  decide ((65 : Int) ≤ x.fst) == true) =
                                true ∧
                              True) ∧
                        ((bif decide ((97 : Int) ≤ x.fst) then decide (x.fst ≤ (122 : Int)) else false) = false →
                            ((bif decide ((97 : Int) ≤ x.fst) then decide (x.fst ≤ (122 : Int)) else false) == false &&
                                  (bif decide ((97 : Int) ≤ x.fst) then decide (x.fst ≤ (122 : Int)) else false) == false) =
                                true ∧
                              (decide ((65 : Int) ≤ x.fst) = true →
                                  ((bif decide ((97 : Int) ≤ x.fst) then decide (x.fst ≤ (122 : Int)) else false) == false &&
                                        (bif decide ((97 : Int) ≤ x.fst) then decide (x.fst ≤ (122 : Int)) else false) == false &&
                                      decide ((65 : Int) ≤ x.fst) == true) =
                                    true) ∧
                                True) ∧
                          ((bif decide ((97 : Int) ≤ x.fst) then decide (x.fst ≤ (122 : Int)) else false) = false →
                              ((bif decide ((97 : Int) ≤ x.fst) then decide (x.fst ≤ (122 : Int)) else false) == false) = true) ∧
                            ((bif bif decide ((97 : Int) ≤ x.fst) then decide (x.fst ≤ (122 : Int)) else false then true
                                  else bif decide ((65 : Int) ≤ x.fst) then decide (x.fst ≤ (90 : Int)) else false) =
                                  false →
                                True) ∧
                              ((bif bif decide ((97 : Int) ≤ x.fst) then decide (x.fst ≤ (122 : Int)) else false then true
                                    else bif decide ((65 : Int) ≤ x.fst) then decide (x.fst ≤ (90 : Int)) else false) =
                                    false →
                                  ((bif bif decide ((97 : Int) ≤ x.fst) then decide (x.fst ≤ (122 : Int)) else false then true
                                        else bif decide ((65 : Int) ≤ x.fst) then decide (x.fst ≤ (90 : Int)) else false) ==
                                        false) =
                                      true ∧
                                    True) ∧
                                ((bif bif decide ((97 : Int) ≤ x.fst) then decide (x.fst ≤ (122 : Int)) else false then true
                                      else bif decide ((65 : Int) ≤ x.fst) then decide (x.fst ≤ (90 : Int)) else false) =
                                      false →
                                    True) ∧
                                  (((bif bif decide ((97 : Int) ≤ x.fst) then decide (x.fst ≤ (122 : Int)) else false then true
                                            else bif decide ((65 : Int) ≤ x.fst) then decide (x.fst ≤ (90 : Int)) else false) ==
                                            false &&
                                          (bif bif decide ((97 : Int) ≤ x.fst) then decide (x.fst ≤ (122 : Int)) else false then true
                                            else bif decide ((65 : Int) ≤ x.fst) then decide (x.fst ≤ (90 : Int)) else false) ==
                                            false) =
                                        true →
                                      decide ((48 : Int) ≤ x.fst) = true → True) ∧
                                    (((bif bif decide ((97 : Int) ≤ x.fst) then decide (x.fst ≤ (122 : Int)) else false then true
                                              else bif decide ((65 : Int) ≤ x.fst) then decide (x.fst ≤ (90 : Int)) else false) ==
                                              false &&
                                            (bif bif decide ((97 : Int) ≤ x.fst) then decide (x.fst ≤ (122 : Int)) else false then true
                                              else bif decide ((65 : Int) ≤ x.fst) then decide (x.fst ≤ (90 : Int)) else false) ==
                                              false) =
                                          true →
                                        decide ((48 : Int) ≤ x.fst) = true →
                                          ((bif bif decide ((97 : Int) ≤ x.fst) then decide (x.fst ≤ (122 : Int)) else false then true
                                                    else bif decide ((65 : Int) ≤ x.fst) then decide (x.fst ≤ (90 : Int)) else false) ==
                                                    false &&
                                                  (bif bif decide ((97 : Int) ≤ x.fst) then decide (x.fst ≤ (122 : Int)) else false then true
                                                    else bif decide ((65 : Int) ≤ x.fst) then decide (x.fst ≤ (90 : Int)) else false) ==
                                                    false &&
                                                decide ((48 : Int) ≤ x.fst) == true) =
                                              true ∧
                                            True) ∧
                                      ((bif bif decide ((97 : Int) ≤ x.fst) then decide (x.fst ≤ (122 : Int)) else false then true
                                            else bif decide ((65 : Int) ≤ x.fst) then decide (x.fst ≤ (90 : Int)) else false) =
                                            false →
                                          ((bif bif decide ((97 : Int) ≤ x.fst) then decide (x.fst ≤ (122 : Int)) else false then true
                                                  else bif decide ((65 : Int) ≤ x.fst) then decide (x.fst ≤ (90 : Int)) else false) ==
                                                  false &&
                                                (bif bif decide ((97 : Int) ≤ x.fst) then decide (x.fst ≤ (122 : Int)) else false then true
                                                  else bif decide ((65 : Int) ≤ x.fst) then decide (x.fst ≤ (90 : Int)) else false) ==
                                                  false) =
                                              true ∧
                                            (decide ((48 : Int) ≤ x.fst) = true →
                                                ((bif bif decide ((97 : Int) ≤ x.fst) then decide (x.fst ≤ (122 : Int)) else false then true
                                                        else bif decide ((65 : Int) ≤ x.fst) then decide (x.fst ≤ (90 : Int)) else false) ==
                                                        false &&
                                                      (bif bif decide ((97 : Int) ≤ x.fst) then decide (x.fst ≤ (122 : Int)) else false then true
                                                        else bif decide ((65 : Int) ≤ x.fst) then decide (x.fst ≤ (90 : Int)) else false) ==
                                                        false &&
                                                    decide ((48 : Int) ≤ x.fst) == true) =
                                                  true) ∧
                                              True) ∧
                                        ((bif bif decide ((97 : Int) ≤ x.fst) then decide (x.fst ≤ (122 : Int)) else false then true
                                              else bif decide ((65 : Int) ≤ x.fst) then decide (x.fst ≤ (90 : Int)) else false) =
                                              false →
                                            ((bif bif decide ((97 : Int) ≤ x.fst) then decide (x.fst ≤ (122 : Int)) else false then true
                                                else bif decide ((65 : Int) ≤ x.fst) then decide (x.fst ≤ (90 : Int)) else false) ==
                                                false) =
                                              true) ∧
                                          ((bif
                                                    bif bif decide ((97 : Int) ≤ x.fst) then decide (x.fst ≤ (122 : Int)) else false then true
                                                    else bif decide ((65 : Int) ≤ x.fst) then decide (x.fst ≤ (90 : Int)) else false then
                                                  true
                                                else bif decide ((48 : Int) ≤ x.fst) then decide (x.fst ≤ (57 : Int)) else false) =
                                                true →
                                              true = printsD x.fst) ∧
                                            ((bif
                                                    bif bif decide ((97 : Int) ≤ x.fst) then decide (x.fst ≤ (122 : Int)) else false then true
                                                    else bif decide ((65 : Int) ≤ x.fst) then decide (x.fst ≤ (90 : Int)) else false then
                                                  true
                                                else bif decide ((48 : Int) ≤ x.fst) then decide (x.fst ≤ (57 : Int)) else false) =
                                                false →
                                              ∃ (I : Int × Bool × Unit → Unit → Prop),
                                                ∃ (μ : Int × Bool × Unit → Unit → Nat),
                                                  (bs
                                                          {
                                                            data :=
                                                              #[(32 : UInt8), (39 : UInt8), (40 : UInt8), (41 : UInt8), (43 : UInt8), (44 : UInt8), (45 : UInt8), (46 : UInt8), (47 : UInt8),
                                                                (58 : UInt8), (61 : UInt8), (63 : UInt8)] } =
                                                        bs
                                                          {
                                                            data :=
                                                              #[(32 : UInt8), (39 : UInt8), (40 : UInt8), (41 : UInt8), (43 : UInt8), (44 : UInt8), (45 : UInt8), (46 : UInt8), (47 : UInt8),
                                                                (58 : UInt8), (61 : UInt8), (63 : UInt8)] } ∧
                                                      Value.bool false = Value.bool false ∧ x.fst = x.fst ∧ I ((0 : Int), false, ()) ()) ∧
                                                    ∀ (y : Int × Bool × Unit) (z : Unit),
                                                      Kd.wf (Kd.int IntKind.i64) y.fst ∧ Kd.wf Kd.bool y.snd.fst ∧ True →
                                                        True →
                                                          I y z →
                                                            (decide (y.fst < (↑(12 : Nat) : Int)) = true →
                                                                ((0 : Int) ≤ y.fst ∧ y.fst < (↑(12 : Nat) : Int)) ∧
                                                                  (decide
                                                                          (List.getD
                                                                              (bs
                                                                                {
                                                                                  data :=
                                                                                    #[(32 : UInt8), (39 : UInt8), (40 : UInt8), (41 : UInt8), (43 : UInt8), (44 : UInt8), (45 : UInt8), (46 : UInt8),
                                                                                      (47 : UInt8), (58 : UInt8), (61 : UInt8), (63 : UInt8)] })
                                                                              (Int.toNat y.fst) (0 : Int) =
                                                                            x.fst) =
                                                                        true →
                                                                      true = printsD x.fst) ∧
                                                                    (decide
                                                                          (List.getD
                                                                              (bs
                                                                                {
                                                                                  data :=
                                                                                    #[(32 : UInt8), (39 : UInt8), (40 : UInt8), (41 : UInt8), (43 : UInt8), (44 : UInt8), (45 : UInt8), (46 : UInt8),
                                                                                      (47 : UInt8), (58 : UInt8), (61 : UInt8), (63 : UInt8)] })
                                                                              (Int.toNat y.fst) (0 : Int) =
                                                                            x.fst) =
                                                                        false →
                                                                      bs
                                                                            {
                                                                              data :=
                                                                                #[(32 : UInt8), (39 : UInt8), (40 : UInt8), (41 : UInt8), (43 : UInt8), (44 : UInt8), (45 : UInt8), (46 : UInt8),
                                                                                  (47 : UInt8), (58 : UInt8), (61 : UInt8), (63 : UInt8)] } =
                                                                          bs
                                                                            {
                                                                              data :=
                                                                                #[(32 : UInt8), (39 : UInt8), (40 : UInt8), (41 : UInt8), (43 : UInt8), (44 : UInt8), (45 : UInt8), (46 : UInt8),
                                                                                  (47 : UInt8), (58 : UInt8), (61 : UInt8), (63 : UInt8)] } ∧
                                                                        Value.bool false = Value.bool false ∧
                                                                          x.fst = x.fst ∧
                                                                            I (IntKind.wrap IntKind.i64 (y.fst + (1 : Int)), y.snd.fst, ()) () ∧
                                                                              μ (IntKind.wrap IntKind.i64 (y.fst + (1 : Int)), y.snd.fst, ()) () < μ y z)) ∧
                                                              (decide (y.fst < (↑(12 : Nat) : Int)) = false → false = printsD x.fst))
theorem e29 : t29 = Con.vc c29 GL (mkEnv ty [] [] [] [0, 2, 3, 4, 26, 30, 37]) {} Tryd.f29.ntmps Tryd.f29.results.toList (bodyOf Tryd.f29) := by kernel_rfl
theorem k29 : t29 := by
  unfold t29
  rintro ⟨c, _⟩ hx hp
  try dsimp +instances only [dft_int, dft_sl, dft_str]
  simp only [true_and, and_true, eq_self_iff_true, implies_true, reduceCtorEq, false_implies, true_implies, decide_eq_true_eq, decide_eq_false_iff_not, beq_self_eq_true, Bool.not_eq_true', ne_eq, Decidable.not_not, List.nil_append, List.length_singleton, List.length_cons, List.length_nil, Nat.zero_add, Nat.add_zero, Nat.mul_one, and_self, beq_iff_eq, Bool.not_true, Bool.not_false, Bool.not_eq_false', Bool.cond_false_right, Bool.and_eq_true, imp_self, Bool.not_eq_true, Bool.cond_true_left, Bool.or_eq_true]
  have hT : bs { data := #[32, 39, 40, 41, 43, 44, 45, 46, 47, 58, 61, 63] } = ([32, 39, 40, 41, 43, 44, 45, 46, 47, 58, 61, 63] : List Int) := by decide
  rw [hT]
  refine ⟨fun h h2 => ⟨h, h2⟩, fun h => ⟨h, fun h2 => ⟨h, h2⟩⟩, fun h h2 => ⟨h, h2⟩, fun h => ⟨h, fun h2 => ⟨h, h2⟩⟩, fun h => ?_, fun h => ?_⟩
  · have : printsD c = true := by
      rw [printsD, decide_eq_true_eq]
      omega
    exact this.symm
  · have hn : ¬ (97 ≤ c ∧ c ≤ 122) ∧ ¬ (65 ≤ c ∧ c ≤ 90) ∧ ¬ (48 ≤ c ∧ c ≤ 57) := by
      simp only [Bool.or_eq_false_iff, Bool.and_eq_false_iff, decide_eq_false_iff_not] at h
      omega
    generalize hTT : ([32, 39, 40, 41, 43, 44, 45, 46, 47, 58, 61, 63] : List Int) = T
    have hTl : T.length = 12 := by rw [← hTT]; rfl
    refine ⟨fun y _ => 0 ≤ y.1 ∧ y.1 ≤ 12 ∧ ∀ j, j < y.1.toNat → T.getD j 0 ≠ c, fun y _ => (12 - y.1).toNat, ⟨by omega, by omega, fun j hj => by simp at hj⟩, ?_⟩
    rintro ⟨i, b, _⟩ z _ ⟨h0, h1, h2⟩
    simp only at h0 h1 h2 ⊢
    have hw : IntKind.wrap .i64 (i + 1) = i + 1 := wrapK _ (by omega) (by omega)
    rw [hw]
    refine ⟨fun hlt => ⟨⟨h0, hlt⟩, fun h3 => ?_, fun h3 => ⟨⟨by omega, by omega, fun j hj => ?_⟩, by omega⟩⟩, fun hge => ?_⟩
    · have hlt2 : i.toNat < T.length := by omega
      have hm : c ∈ T := by
        rw [List.getD_eq_getElem?_getD, List.getElem?_eq_getElem hlt2] at h3
        have h3 : T[i.toNat] = c := h3
        rw [← h3]; exact List.getElem_mem hlt2
      have : printsD c = true := by
        rw [printsD, decide_eq_true_eq, hTT]
        exact .inr (.inr (.inr hm))
      exact this.symm
    · by_cases hji : j < i.toNat
      · exact h2 j hji
      · rw [show j = i.toNat by omega]; exact h3
    · have : printsD c = false := by
        rw [printsD, decide_eq_false_iff_not, hTT]
        rintro (h | h | h | h)
        · exact hn.1 h
        · exact hn.2.1 h
        · exact hn.2.2 h
        · obtain ⟨j, hj, e⟩ := List.getElem_of_mem h
          refine h2 j (by omega) ?_
          rw [List.getD_eq_getElem?_getD, List.getElem?_eq_getElem hj]
          exact e
      exact this.symm
theorem h29 : c29.ok Tryd.prog GL 29 := con_ok (H := {}) (mkEnv_ok (gl := GL) (l := []) (q := []) (d := []) _ tyOk (by kernel_rfl) trivial trivial trivial) (by kernel_rfl) (by kernel_rfl) (Eq.mp e29 k29)

def t20 : Prop :=
  ∀ (x : Int × List Int × Unit),
    Kd.wf (Kd.int IntKind.i64) x.fst ∧ Kd.wf Kd.str x.snd.fst ∧ True →
      True →
        (decide ((4096 : Int) < (↑(List.length x.snd.fst) : Int)) = true → false = mayD x.fst x.snd.fst) ∧
          (decide ((4096 : Int) < (↑(List.length x.snd.fst) : Int)) = false →
            (decide (x.fst = (12 : Int)) = true →
                True ∧
                  (∀ (y : Int × Unit), Kd.wf (Kd.int IntKind.i64) y.fst ∧ True → y.fst = (↑(vld x.snd.fst (0 : Nat)) : Int) → decide (y.fst = (↑(List.length x.snd.fst) : Int)) = mayD x.fst x.snd.fst) ∧
                    True) ∧
              (decide (x.fst = (12 : Int)) = false →
                (decide (x.fst = (19 : Int)) = true →
                    ∃ (I : Int × Bool × Unit → Unit → Prop),
                      ∃ (μ : Int × Bool × Unit → Unit → Nat),
                        ((↑(List.length x.snd.fst) : Int) = (↑(List.length x.snd.fst) : Int) ∧
                            Value.bool true = Value.bool true ∧
                              Value.bool false = Value.bool false ∧ x.fst = x.fst ∧ Value.bool false = Value.bool false ∧ x.fst = x.fst ∧ x.snd.fst = x.snd.fst ∧ I ((0 : Int), false, ()) ()) ∧
                          ∀ (y : Int × Bool × Unit) (z : Unit),
                            Kd.wf (Kd.int IntKind.i64) y.fst ∧ Kd.wf Kd.bool y.snd.fst ∧ True →
                              True →
                                I y z →
                                  (decide (y.fst < (↑(List.length x.snd.fst) : Int)) = true →
                                      ((0 : Int) ≤ y.fst ∧ y.fst < (↑(List.length x.snd.fst) : Int)) ∧
                                        True ∧
                                          (∀ (y_1 : Bool × Unit),
                                              Kd.wf Kd.bool y_1.fst ∧ True →
                                                y_1.fst = printsD (List.getD x.snd.fst (Int.toNat y.fst) (0 : Int)) →
                                                  ((!y_1.fst) = true → false = mayD x.fst x.snd.fst) ∧
                                                    ((!y_1.fst) = false →
                                                      (↑(List.length x.snd.fst) : Int) = (↑(List.length x.snd.fst) : Int) ∧
                                                        Value.bool true = Value.bool true ∧
                                                          Value.bool false = Value.bool false ∧
                                                            x.fst = x.fst ∧
                                                              Value.bool false = Value.bool false ∧
                                                                x.fst = x.fst ∧
                                                                  x.snd.fst = x.snd.fst ∧
                                                                    I (IntKind.wrap IntKind.i64 (y.fst + (1 : Int)), y.snd.fst, ()) () ∧
                                                                      μ (IntKind.wrap IntKind.i64 (y.fst + (1 : Int)), y.snd.fst, ()) () < μ y z)) ∧
                                            True) ∧
                                    (decide (y.fst < (↑(List.length x.snd.fst) : Int)) = false → true = mayD x.fst x.snd.fst)) ∧
                  (decide (x.fst = (19 : Int)) = false →
                    (decide (x.fst = (22 : Int)) = true →
                        ∃ (I : Int × Bool × Unit → Unit → Prop),
                          ∃ (μ : Int × Bool × Unit → Unit → Nat),
                            ((↑(List.length x.snd.fst) : Int) = (↑(List.length x.snd.fst) : Int) ∧
                                Value.bool true = Value.bool true ∧
                                  Value.bool false = Value.bool false ∧
                                    Value.bool false = Value.bool false ∧ x.fst = x.fst ∧ Value.bool false = Value.bool false ∧ x.fst = x.fst ∧ x.snd.fst = x.snd.fst ∧ I ((0 : Int), false, ()) ()) ∧
                              ∀ (y : Int × Bool × Unit) (z : Unit),
                                Kd.wf (Kd.int IntKind.i64) y.fst ∧ Kd.wf Kd.bool y.snd.fst ∧ True →
                                  True →
                                    I y z →
                                      (decide (y.fst < (↑(List.length x.snd.fst) : Int)) = true →
                                          ((0 : Int) ≤ y.fst ∧ y.fst < (↑(List.length x.snd.fst) : Int)) ∧
                                            (decide ((128 : Int) ≤ List.getD x.snd.fst (Int.toNat y.fst) (0 : Int)) = true → false = mayD x.fst x.snd.fst) ∧
                                              (decide ((128 : Int) ≤ List.getD x.snd.fst (Int.toNat y.fst) (0 : Int)) = false →
                                                (↑(List.length x.snd.fst) : Int) = (↑(List.length x.snd.fst) : Int) ∧
                                                  Value.bool true = Value.bool true ∧
                                                    Value.bool false = Value.bool false ∧
                                                      Value.bool false = Value.bool false ∧
                                                        x.fst = x.fst ∧
                                                          Value.bool false = Value.bool false ∧
                                                            x.fst = x.fst ∧
                                                              x.snd.fst = x.snd.fst ∧
                                                                I (IntKind.wrap IntKind.i64 (y.fst + (1 : Int)), y.snd.fst, ()) () ∧
                                                                  μ (IntKind.wrap IntKind.i64 (y.fst + (1 : Int)), y.snd.fst, ()) () < μ y z)) ∧
                                        (decide (y.fst < (↑(List.length x.snd.fst) : Int)) = false → true = mayD x.fst x.snd.fst)) ∧
                      (decide (x.fst = (22 : Int)) = false → false = mayD x.fst x.snd.fst))))
theorem e20 : t20 = Con.vc c20 GL (mkEnv ty [(10, conSem c10), (28, conSem c28)] [] [] [0, 1, 4, 5, 6, 9, 10, 11, 18, 21, 22, 23, 29, 31, 34, 35, 36, 41]) {} Tryd.f20.ntmps Tryd.f20.results.toList (bodyOf Tryd.f20) := by kernel_rfl
theorem k20 : t20 := by
  unfold t20
  rintro ⟨k, m, _⟩ hx hp
  try dsimp +instances only [dft_int, dft_sl, dft_str]
  simp only [true_and, and_true, eq_self_iff_true, implies_true, reduceCtorEq, false_implies, true_implies, decide_eq_true_eq, decide_eq_false_iff_not, beq_self_eq_true, Bool.not_eq_true', ne_eq, Decidable.not_not, List.nil_append, List.length_singleton, List.length_cons, List.length_nil, Nat.zero_add, Nat.add_zero, Nat.mul_one, and_self, beq_iff_eq, Bool.not_true, Bool.not_false, Bool.not_eq_false', Bool.cond_false_right, Bool.and_eq_true, imp_self, Bool.not_eq_true, Bool.cond_true_left, Bool.or_eq_true]
  refine ⟨fun h => by rw [mayD, if_pos (by omega)], fun hl => ⟨fun h => ?_, fun h12 => ⟨fun h19 => ?_, fun h19 => ⟨fun h22 => ?_, fun h22 => ?_⟩⟩⟩⟩
  · rintro ⟨a, _⟩ _ ea
    simp only at ea ⊢
    rw [mayD, if_neg (by omega), if_pos h, ea]
    exact decide_eq_decide.2 (by omega)
  · have hm : mayD k m = m.all printsD := by rw [mayD, if_neg (by omega), if_neg h12, if_pos h19]
    rw [hm]
    refine ⟨fun y _ => 0 ≤ y.1 ∧ y.1 ≤ m.length ∧ ∀ j, j < y.1.toNat → printsD (m.getD j 0) = true, fun y _ => ((m.length : Int) - y.1).toNat, ⟨by omega, by omega, fun j hj => by simp at hj⟩, ?_⟩
    rintro ⟨i, b, _⟩ z _ ⟨h0, h1, h2⟩
    simp only at h0 h1 h2 ⊢
    have hw : IntKind.wrap .i64 (i + 1) = i + 1 := wrapK _ (by omega) (by omega)
    rw [hw]
    refine ⟨fun hlt => ⟨⟨h0, hlt⟩, ?_⟩, fun hge => (all_get _ _ (fun j hj => h2 j (by omega))).symm⟩
    rintro ⟨a, _⟩ _ ea
    simp only at ea ⊢
    refine ⟨fun h => (all_not _ _ i.toNat (by omega) (by rw [← ea]; exact h)).symm, fun h => ⟨⟨by omega, by omega, fun j hj => ?_⟩, by omega⟩⟩
    by_cases hji : j < i.toNat
    · exact h2 j hji
    · rw [show j = i.toNat by omega, ← ea]; exact h
  · have hm : mayD k m = m.all (fun c => decide (c < 128)) := by rw [mayD, if_neg (by omega), if_neg h12, if_neg h19, if_pos h22]
    rw [hm]
    refine ⟨fun y _ => 0 ≤ y.1 ∧ y.1 ≤ m.length ∧ ∀ j, j < y.1.toNat → m.getD j 0 < 128, fun y _ => ((m.length : Int) - y.1).toNat, ⟨by omega, by omega, fun j hj => by simp at hj⟩, ?_⟩
    rintro ⟨i, b, _⟩ z _ ⟨h0, h1, h2⟩
    simp only at h0 h1 h2 ⊢
    have hw : IntKind.wrap .i64 (i + 1) = i + 1 := wrapK _ (by omega) (by omega)
    rw [hw]
    refine ⟨fun hlt => ⟨⟨h0, hlt⟩, fun h => (all_not _ _ i.toNat (by omega) (by simpa using h)).symm, fun h => ⟨⟨by omega, by omega, fun j hj => ?_⟩, by omega⟩⟩, fun hge => (all_get _ _ (fun j hj => by simpa using h2 j (by omega))).symm⟩
    by_cases hji : j < i.toNat
    · exact h2 j hji
    · rw [show j = i.toNat by omega]; omega
  · rw [mayD, if_neg (by omega), if_neg h12, if_neg h19, if_neg h22]
theorem h20 : c20.ok Tryd.prog GL 20 := con_ok (H := {}) (mkEnv_ok (gl := GL) (l := [(10, conSem c10), (28, conSem c28)]) (q := []) (d := []) _ tyOk (by kernel_rfl) ⟨h10.call, h28.call, trivial⟩ trivial trivial) (by kernel_rfl) (by kernel_rfl) (Eq.mp e20 k20)

def t21 : Prop :=
  ∀ (x : Int × List Int × Unit),
    Kd.wf (Kd.int IntKind.i64) x.fst ∧ Kd.wf Kd.str x.snd.fst ∧ True →
      List.length x.snd.fst ≤ (1000000000 : Nat) →
        (decide ((4096 : Int) < (↑(List.length x.snd.fst) : Int)) = false → True) ∧
          (decide ((4096 : Int) < (↑(List.length x.snd.fst) : Int)) = false → (decide ((4096 : Int) < (↑(List.length x.snd.fst) : Int)) == false) = true ∧ True) ∧
            (decide ((4096 : Int) < (↑(List.length x.snd.fst) : Int)) = false → True) ∧
              ((decide ((4096 : Int) < (↑(List.length x.snd.fst) : Int)) == false && decide ((4096 : Int) < (↑(List.length x.snd.fst) : Int)) == false) = true →
                  decide (x.fst ≠ (12 : Int)) = true → True) ∧
                ((decide ((4096 : Int) < (↑(List.length x.snd.fst) : Int)) == false && decide ((4096 : Int) < (↑(List.length x.snd.fst) : Int)) == false) = true →
                    decide (x.fst ≠ (12 : Int)) = true →
                      (decide ((4096 : Int) < (↑(List.length x.snd.fst) : Int)) == false && decide ((4096 : Int) < (↑(List.length x.snd.fst) : Int)) == false && decide (x.fst ≠ (12 : Int)) == true) =
                          true ∧
                        True) ∧
                  (decide ((4096 : Int) < (↑(List.length x.snd.fst) : Int)) = false →
                      (decide ((4096 : Int) < (↑(List.length x.snd.fst) : Int)) == false && decide ((4096 : Int) < (↑(List.length x.snd.fst) : Int)) == false) = true ∧
                        (decide (x.fst ≠ (12 : Int)) = true →
                            (decide ((4096 : Int) < (↑(List.length x.snd.fst) : Int)) == false && decide ((4096 : Int) < (↑(List.length x.snd.fst) : Int)) == false &&
                                decide (x.fst ≠ (12 : Int)) == true) =
                              true) ∧
                          True) ∧
                    (decide ((4096 : Int) < (↑(List.length x.snd.fst) : Int)) = false → True) ∧
                      ((decide ((4096 : Int) < (↑(List.length x.snd.fst) : Int)) == false && decide ((4096 : Int) < (↑(List.length x.snd.fst) : Int)) == false) = true →
                          (bif decide (x.fst ≠ (12 : Int)) then decide (x.fst ≠ (19 : Int)) else false) = true → True) ∧
                        ((decide ((4096 : Int) < (↑(List.length x.snd.fst) : Int)) == false && decide ((4096 : Int) < (↑(List.length x.snd.fst) : Int)) == false) = true →
                            (bif decide (x.fst ≠ (12 : Int)) then decide (x.fst ≠ (19 : Int)) else false) = true →
                              (decide ((4096 : Int) < (↑(List.length x.snd.fst) : Int)) == false && decide ((4096 : Int) < (↑(List.length x.snd.fst) : Int)) == false &&
                                    (bif decide (x.fst ≠ (12 : Int)) then decide (x.fst ≠ (19 : Int)) else false) == true) =
                                  true ∧
                                True) ∧
                          (decide ((4096 : Int) < (↑(List.length x.snd.fst) : Int)) = false →
                              (decide ((4096 : Int) < (↑(List.length x.snd.fst) : Int)) == false && decide ((4096 : Int) < (↑(List.length x.snd.fst) : Int)) == false) = true ∧
                                ((bif decide (x.fst ≠ (12 : Int)) then decide (x.fst ≠ (19 : Int)) else false) = true →
                                    (decide ((4096 : Int) < (↑(List.length x.snd.fst) : Int)) == false && decide ((4096 : Int) < (↑(List.length x.snd.fst) : Int)) == false &&
                                        (bif decide (x.fst ≠ (12 : Int)) then decide (x.fst ≠ (19 : Int)) else false) == true) =
                                      true) ∧
                                  True) ∧
                            (decide ((4096 : Int) < (↑(List.length x.snd.fst) : Int)) = false → (decide ((4096 : Int) < (↑(List.length x.snd.fst) : Int)) == false) = true) ∧
                              ((bif decide ((4096 : Int) < (↑(List.length x.snd.fst) : Int)) then true
                                    else bif bif decide (x.fst ≠ (12 : Int)) then decide (x.fst ≠ (19 : Int)) else false then decide (x.fst ≠ (22 : Int)) else false) =
                                    true →
                                  false = mayD x.fst x.snd.fst) ∧
                                ((bif decide ((4096 : Int) < (↑(List.length x.snd.fst) : Int)) then true
                                    else bif bif decide (x.fst ≠ (12 : Int)) then decide (x.fst ≠ (19 : Int)) else false then decide (x.fst ≠ (22 : Int)) else false) =
                                    false →
                                  (decide (x.fst = (12 : Int)) = true →
                                      List.length x.snd.fst ≤ (1000000000 : Nat) ∧
                                        (∀ (y : Int × Unit),
                                            Kd.wf (Kd.int IntKind.i64) y.fst ∧ True →
                                              y.fst = (↑(vld x.snd.fst (0 : Nat)) : Int) → decide (y.fst = (↑(List.length x.snd.fst) : Int)) = mayD x.fst x.snd.fst) ∧
                                          True) ∧
                                    (decide (x.fst = (12 : Int)) = false →
                                      ∃ (I : Int × Bool × Unit → Unit → Prop),
                                        ∃ (μ : Int × Bool × Unit → Unit → Nat),
                                          (Value.bool false = Value.bool false ∧ Value.bool false = Value.bool false ∧ x.fst = x.fst ∧ x.snd.fst = x.snd.fst ∧ I ((0 : Int), false, ()) ()) ∧
                                            ∀ (y : Int × Bool × Unit) (z : Unit),
                                              Kd.wf (Kd.int IntKind.i64) y.fst ∧ Kd.wf Kd.bool y.snd.fst ∧ True →
                                                True →
                                                  I y z →
                                                    (decide (y.fst < (↑(List.length x.snd.fst) : Int)) = true →
                                                        (decide (x.fst = (19 : Int)) = true → True) ∧
                                                          (decide (x.fst = (19 : Int)) = true → True) ∧
                                                            (decide (x.fst = (19 : Int)) = true →
                                                                (decide (x.fst = (19 : Int)) == true) = true ∧
                                                                  (decide (x.fst = (19 : Int)) == true) = true ∧ ((0 : Int) ≤ y.fst ∧ y.fst < (↑(List.length x.snd.fst) : Int)) ∧ True) ∧
                                                              (decide (x.fst = (19 : Int)) = true →
                                                                  (decide (x.fst = (19 : Int)) == true) = true ∧
                                                                    True ∧
                                                                      (∀ (y_1 : Bool × Unit),
                                                                          Kd.wf Kd.bool y_1.fst ∧ True →
                                                                            y_1.fst = printsD (List.getD x.snd.fst (Int.toNat y.fst) (0 : Int)) →
                                                                              ((!y_1.fst) = false → True) ∧
                                                                                ((!y_1.fst) = false → True) ∧
                                                                                  ((!y_1.fst) = false →
                                                                                      ((!y_1.fst) == false) = true ∧
                                                                                        ((!y_1.fst) == false) = true ∧ ((0 : Int) ≤ y.fst ∧ y.fst < (↑(List.length x.snd.fst) : Int)) ∧ True) ∧
                                                                                    ((!y_1.fst) = false → ((!y_1.fst) == false) = true ∧ True) ∧
                                                                                      ((!y_1.fst) = false → ((!y_1.fst) == false) = true) ∧
                                                                                        ((bif !y_1.fst then true else decide ((127 : Int) < List.getD x.snd.fst (Int.toNat y.fst) (0 : Int))) = true →
                                                                                            false = mayD x.fst x.snd.fst) ∧
                                                                                          ((bif !y_1.fst then true else decide ((127 : Int) < List.getD x.snd.fst (Int.toNat y.fst) (0 : Int))) = false →
                                                                                            Value.bool false = Value.bool false ∧
                                                                                              Value.bool false = Value.bool false ∧
                                                                                                x.fst = x.fst ∧
                                                                                                  x.snd.fst = x.snd.fst ∧
                                                                                                    I (IntKind.wrap IntKind.i64 (y.fst + (1 : Int)), y.snd.fst, ()) () ∧
                                                                                                      μ (IntKind.wrap IntKind.i64 (y.fst + (1 : Int)), y.snd.fst, ()) () < μ y z)) ∧
                                                                        True) ∧
                                                                (decide (x.fst = (19 : Int)) = !true →
                                                                  ((0 : Int) ≤ y.fst ∧ y.fst < (↑(List.length x.snd.fst) : Int)) ∧
                                                                    (decide ((127 : Int) < List.getD x.snd.fst (Int.toNat y.fst) (0 : Int)) = true → false = mayD x.fst x.snd.fst) ∧
                                                                      (decide ((127 : Int) < List.getD x.snd.fst (Int.toNat y.fst) (0 : Int)) = false →
                                                                        Value.bool false = Value.bool false ∧
                                                                          Value.bool false = Value.bool false ∧
                                                                            x.fst = x.fst ∧
                                                                              x.snd.fst = x.snd.fst ∧
                                                                                I (IntKind.wrap IntKind.i64 (y.fst + (1 : Int)), y.snd.fst, ()) () ∧
                                                                                  μ (IntKind.wrap IntKind.i64 (y.fst + (1 : Int)), y.snd.fst, ()) () < μ y z))) ∧
                                                      (decide (y.fst < (↑(List.length x.snd.fst) : Int)) = false → true = mayD x.fst x.snd.fst)))
theorem e21 : t21 = Con.vc c21 GL (mkEnv ty [(11, conSem c11), (29, conSem c29)] [] [] [0, 1, 4, 5, 20, 22, 31, 48]) {} Tryd.f21.ntmps Tryd.f21.results.toList (bodyOf Tryd.f21) := by kernel_rfl
theorem k21 : t21 := by
  unfold t21
  rintro ⟨k, m, _⟩ hx hp
  have hp : m.length ≤ 1000000000 := hp
  try dsimp +instances only [dft_int, dft_sl, dft_str]
  simp only [true_and, and_true, eq_self_iff_true, implies_true, reduceCtorEq, false_implies, true_implies, decide_eq_true_eq, decide_eq_false_iff_not, beq_self_eq_true, Bool.not_eq_true', ne_eq, Decidable.not_not, List.nil_append, List.length_singleton, List.length_cons, List.length_nil, Nat.zero_add, Nat.add_zero, Nat.mul_one, and_self, beq_iff_eq, Bool.not_true, Bool.not_false, Bool.not_eq_false', Bool.cond_false_right, Bool.and_eq_true, imp_self, Bool.not_eq_true, Bool.cond_true_left, Bool.or_eq_true]
  refine ⟨fun h h2 => ⟨h, h2⟩, fun h => ⟨h, fun h2 => ⟨h, h2⟩⟩, fun h h2 => ⟨h, h2⟩, fun h => ⟨h, fun h2 => ⟨h, h2⟩⟩, fun h => ?_, fun h => ⟨fun h12 => ⟨hp, ?_⟩, fun h12 => ?_⟩⟩
  · symm
    unfold mayD
    by_cases h4 : 4096 < m.length
    · rw [if_pos h4]
    · rw [if_neg h4, if_neg (by omega), if_neg (by omega), if_neg (by omega)]
  · simp only [Bool.or_eq_false_iff, decide_eq_false_iff_not] at h
    rintro ⟨a, _⟩ _ ea
    simp only at ea ⊢
    rw [mayD, if_neg (by omega), if_pos h12, ea]
    exact decide_eq_decide.2 (by omega)
  · simp only [Bool.or_eq_false_iff, Bool.and_eq_false_iff, decide_eq_false_iff_not, Decidable.not_not] at h
    have hm : ∀ i : Int, 0 ≤ i → i ≤ m.length → True := fun _ _ _ => trivial
    by_cases h19 : k = 19
    · have hm : mayD k m = m.all printsD := by rw [mayD, if_neg (by omega), if_neg h12, if_pos h19]
      rw [hm]
      refine ⟨fun y _ => 0 ≤ y.1 ∧ y.1 ≤ m.length ∧ ∀ j, j < y.1.toNat → printsD (m.getD j 0) = true, fun y _ => ((m.length : Int) - y.1).toNat, ⟨by omega, by omega, fun j hj => by simp at hj⟩, ?_⟩
      rintro ⟨i, b, _⟩ z _ ⟨h0, h1, h2⟩
      simp only at h0 h1 h2 ⊢
      have hw : IntKind.wrap .i64 (i + 1) = i + 1 := wrapK _ (by omega) (by omega)
      rw [hw]
      refine ⟨fun hlt => ⟨fun e => ⟨e, e, h0, hlt⟩, fun e => ⟨e, ?_⟩, fun e => absurd h19 e⟩, fun hge => (all_get _ _ (fun j hj => h2 j (by omega))).symm⟩
      rintro ⟨a, _⟩ _ ea
      simp only at ea ⊢
      refine ⟨fun h => ⟨h, h, h0, hlt⟩, fun h => ?_, fun h => ⟨⟨by omega, by omega, fun j hj => ?_⟩, by omega⟩⟩
      · refine (all_not _ _ i.toNat (by omega) ?_).symm
        rcases h with h | h
        · rw [← ea]; exact h
        · cases hpr : printsD (m.getD i.toNat 0) with
          | false => rfl
          | true => have := prints_low hpr; omega
      · by_cases hji : j < i.toNat
        · exact h2 j hji
        · rw [show j = i.toNat by omega, ← ea]
          have := (Bool.or_eq_false_iff.1 h).1
          simpa using this
    · have h22 : k = 22 := by omega
      have hm : mayD k m = m.all (fun c => decide (c < 128)) := by rw [mayD, if_neg (by omega), if_neg h12, if_neg h19, if_pos h22]
      rw [hm]
      refine ⟨fun y _ => 0 ≤ y.1 ∧ y.1 ≤ m.length ∧ ∀ j, j < y.1.toNat → m.getD j 0 < 128, fun y _ => ((m.length : Int) - y.1).toNat, ⟨by omega, by omega, fun j hj => by simp at hj⟩, ?_⟩
      rintro ⟨i, b, _⟩ z _ ⟨h0, h1, h2⟩
      simp only at h0 h1 h2 ⊢
      have hw : IntKind.wrap .i64 (i + 1) = i + 1 := wrapK _ (by omega) (by omega)
      rw [hw]
      refine ⟨fun hlt => ⟨fun e => absurd e h19, fun e => absurd e h19, fun _ => ⟨⟨h0, hlt⟩, fun h => (all_not _ _ i.toNat (by omega) (by show decide (m.getD i.toNat 0 < 128) = false; rw [decide_eq_false_iff_not]; omega)).symm, fun h => ⟨⟨by omega, by omega, fun j hj => ?_⟩, by omega⟩⟩⟩, fun hge => (all_get _ _ (fun j hj => by simpa using h2 j (by omega))).symm⟩
      by_cases hji : j < i.toNat
      · exact h2 j hji
      · rw [show j = i.toNat by omega]; omega
theorem h21 : c21.ok Tryd.prog GL 21 := con_ok (H := {}) (mkEnv_ok (gl := GL) (l := [(11, conSem c11), (29, conSem c29)]) (q := []) (d := []) _ tyOk (by kernel_rfl) ⟨h11.call, h29.call, trivial⟩ trivial trivial) (by kernel_rfl) (by kernel_rfl) (Eq.mp e21 k21)

def t18 : Prop :=
  ∀ (x : List Int × Unit),
    Kd.wf Kd.str x.fst ∧ True →
      True →
        True ∧
          (∀ (y : Bool × Unit),
              Kd.wf Kd.bool y.fst ∧ True →
                y.fst = mayD (19 : Int) x.fst →
                  (y.fst = true → (19 : Int) = (kindD x.fst).fst ∧ (0 : Int) = (kindD x.fst).snd) ∧
                    (y.fst = false →
                      True ∧
                        (∀ (y : Bool × Unit),
                            Kd.wf Kd.bool y.fst ∧ True →
                              y.fst = mayD (12 : Int) x.fst →
                                (y.fst = true → (12 : Int) = (kindD x.fst).fst ∧ (0 : Int) = (kindD x.fst).snd) ∧ (y.fst = false → (0 : Int) = (kindD x.fst).fst ∧ (50 : Int) = (kindD x.fst).snd)) ∧
                          True)) ∧
            True
theorem e18 : t18 = Con.vc c18 GL (mkEnv ty [(20, conSem c20)] [] [] [0, 2, 3, 4, 7]) {} Tryd.f18.ntmps Tryd.f18.results.toList (bodyOf Tryd.f18) := by kernel_rfl
theorem k18 : t18 := by
  unfold t18
  rintro ⟨l, _⟩ hx hp
  try dsimp +instances only [dft_int, dft_sl, dft_str]
  simp only [true_and, and_true, eq_self_iff_true, implies_true, reduceCtorEq, false_implies, true_implies, decide_eq_true_eq, decide_eq_false_iff_not, beq_self_eq_true, Bool.not_eq_true', ne_eq, Decidable.not_not, List.nil_append, List.length_singleton, List.length_cons, List.length_nil, Nat.zero_add, Nat.add_zero, Nat.mul_one, and_self, beq_iff_eq, Bool.not_true, Bool.not_false, Bool.not_eq_false', Bool.cond_false_right, Bool.and_eq_true, imp_self, Bool.not_eq_true, Bool.cond_true_left, Bool.or_eq_true]
  rintro ⟨a, _⟩ _ ea
  simp only at ea ⊢
  refine ⟨fun h => by rw [kindD, if_pos (by rw [← ea]; exact h)]; exact ⟨rfl, rfl⟩, fun h => ?_⟩
  rintro ⟨b, _⟩ _ eb
  simp only at eb ⊢
  refine ⟨fun h2 => ?_, fun h2 => ?_⟩
  · rw [kindD, if_neg (by rw [← ea, h]; decide), if_pos (by rw [← eb]; exact h2)]; exact ⟨rfl, rfl⟩
  · rw [kindD, if_neg (by rw [← ea, h]; decide), if_neg (by rw [← eb, h2]; decide)]; exact ⟨rfl, rfl⟩
theorem h18 : c18.ok Tryd.prog GL 18 := con_ok (H := {}) (mkEnv_ok (gl := GL) (l := [(20, conSem c20)]) (q := []) (d := []) _ tyOk (by kernel_rfl) ⟨h20.call, trivial⟩ trivial trivial) (by kernel_rfl) (by kernel_rfl) (Eq.mp e18 k18)

def t19 : Prop :=
  ∀ (x : List Int × Unit),
    Kd.wf Kd.str x.fst ∧ True →
      List.length x.fst ≤ (1000000000 : Nat) →
        List.length x.fst ≤ (1000000000 : Nat) ∧
          (∀ (y : Bool × Unit),
              Kd.wf Kd.bool y.fst ∧ True →
                y.fst = mayD (19 : Int) x.fst →
                  (y.fst = true → (19 : Int) = (kindD x.fst).fst ∧ (0 : Int) = (kindD x.fst).snd) ∧
                    (y.fst = false →
                      List.length x.fst ≤ (1000000000 : Nat) ∧
                        (∀ (y : Bool × Unit),
                            Kd.wf Kd.bool y.fst ∧ True →
                              y.fst = mayD (12 : Int) x.fst →
                                (y.fst = true → (12 : Int) = (kindD x.fst).fst ∧ (0 : Int) = (kindD x.fst).snd) ∧ (y.fst = false → (0 : Int) = (kindD x.fst).fst ∧ (50 : Int) = (kindD x.fst).snd)) ∧
                          True)) ∧
            True
theorem e19 : t19 = Con.vc c19 GL (mkEnv ty [(21, conSem c21)] [] [] [0, 2, 3, 5, 7]) {} Tryd.f19.ntmps Tryd.f19.results.toList (bodyOf Tryd.f19) := by kernel_rfl
theorem k19 : t19 := by
  unfold t19
  rintro ⟨l, _⟩ hx hp
  try dsimp +instances only [dft_int, dft_sl, dft_str]
  simp only [true_and, and_true, eq_self_iff_true, implies_true, reduceCtorEq, false_implies, true_implies, decide_eq_true_eq, decide_eq_false_iff_not, beq_self_eq_true, Bool.not_eq_true', ne_eq, Decidable.not_not, List.nil_append, List.length_singleton, List.length_cons, List.length_nil, Nat.zero_add, Nat.add_zero, Nat.mul_one, and_self, beq_iff_eq, Bool.not_true, Bool.not_false, Bool.not_eq_false', Bool.cond_false_right, Bool.and_eq_true, imp_self, Bool.not_eq_true, Bool.cond_true_left, Bool.or_eq_true]
  refine ⟨hp, ?_⟩
  rintro ⟨a, _⟩ _ ea
  simp only at ea ⊢
  refine ⟨fun h => by rw [kindD, if_pos (by rw [← ea]; exact h)]; exact ⟨rfl, rfl⟩, fun h => ⟨hp, ?_⟩⟩
  rintro ⟨b, _⟩ _ eb
  simp only at eb ⊢
  refine ⟨fun h2 => ?_, fun h2 => ?_⟩
  · rw [kindD, if_neg (by rw [← ea, h]; decide), if_pos (by rw [← eb]; exact h2)]; exact ⟨rfl, rfl⟩
  · rw [kindD, if_neg (by rw [← ea, h]; decide), if_neg (by rw [← eb, h2]; decide)]; exact ⟨rfl, rfl⟩
theorem h19 : c19.ok Tryd.prog GL 19 := con_ok (H := {}) (mkEnv_ok (gl := GL) (l := [(21, conSem c21)]) (q := []) (d := []) _ tyOk (by kernel_rfl) ⟨h21.call, trivial⟩ trivial trivial) (by kernel_rfl) (by kernel_rfl) (Eq.mp e19 k19)

def t14 : Prop :=
  ∀ (x : List Int × Unit),
    Kd.wf Kd.str x.fst ∧ True →
      List.length x.fst ≤ (100000000 : Nat) →
        ∃ (I : Int × Int × Unit → List (List Int) × Unit → Prop),
          ∃ (μ : Int × Int × Unit → List (List Int) × Unit → Nat),
            (Value.slice none (0 : Nat) (0 : Nat) = Value.slice none (0 : Nat) (0 : Nat) ∧ x.fst = x.fst ∧ I ((0 : Int), (0 : Int), ()) ([], ())) ∧
              ∀ (y : Int × Int × Unit) (z : List (List Int) × Unit),
                Kd.wf (Kd.int IntKind.i64) y.fst ∧ Kd.wf (Kd.int IntKind.i64) y.snd.fst ∧ True →
                  Kd.wf (Kd.sl Kd.str) z.fst ∧ True →
                    I y z →
                      (decide (y.fst ≤ (↑(List.length x.fst) : Int)) = true →
                          (decide (y.fst = (↑(List.length x.fst) : Int)) = false → True) ∧
                            (decide (y.fst = (↑(List.length x.fst) : Int)) = false → True) ∧
                              (decide (y.fst = (↑(List.length x.fst) : Int)) = false →
                                  (decide (y.fst = (↑(List.length x.fst) : Int)) == false) = true ∧
                                    (decide (y.fst = (↑(List.length x.fst) : Int)) == false) = true ∧ ((0 : Int) ≤ y.fst ∧ y.fst < (↑(List.length x.fst) : Int)) ∧ True) ∧
                                (decide (y.fst = (↑(List.length x.fst) : Int)) = false → (decide (y.fst = (↑(List.length x.fst) : Int)) == false) = true ∧ True) ∧
                                  (decide (y.fst = (↑(List.length x.fst) : Int)) = false → (decide (y.fst = (↑(List.length x.fst) : Int)) == false) = true) ∧
                                    ((bif decide (y.fst = (↑(List.length x.fst) : Int)) then true else decide (List.getD x.fst (Int.toNat y.fst) (0 : Int) = (32 : Int))) = true →
                                        (decide (y.snd.fst < y.fst) = true →
                                            ((0 : Int) ≤ y.snd.fst ∧ y.snd.fst ≤ y.fst ∧ y.fst ≤ (↑(List.length x.fst) : Int)) ∧
                                              (0 : Nat) < (1 : Nat) ∧
                                                (List.length z.fst + List.length [List.drop (Int.toNat y.snd.fst) (List.take (Int.toNat y.fst) x.fst)]) * (16 : Nat) ≤ (140737488355328 : Nat) ∧
                                                  List.length z.fst + List.length [List.drop (Int.toNat y.snd.fst) (List.take (Int.toNat y.fst) x.fst)] ≤ (9223372036854775807 : Nat) ∧
                                                    Value.slice none (0 : Nat) (0 : Nat) = Value.slice none (0 : Nat) (0 : Nat) ∧
                                                      x.fst = x.fst ∧
                                                        I (IntKind.wrap IntKind.i64 (y.fst + (1 : Int)), IntKind.wrap IntKind.i64 (y.fst + (1 : Int)), ())
                                                            (z.fst ++ [List.drop (Int.toNat y.snd.fst) (List.take (Int.toNat y.fst) x.fst)], ()) ∧
                                                          μ (IntKind.wrap IntKind.i64 (y.fst + (1 : Int)), IntKind.wrap IntKind.i64 (y.fst + (1 : Int)), ())
                                                              (z.fst ++ [List.drop (Int.toNat y.snd.fst) (List.take (Int.toNat y.fst) x.fst)], ()) <
                                                            μ y z) ∧
                                          (decide (y.snd.fst < y.fst) = false →
                                            Value.slice none (0 : Nat) (0 : Nat) = Value.slice none (0 : Nat) (0 : Nat) ∧
                                              x.fst = x.fst ∧
                                                I (IntKind.wrap IntKind.i64 (y.fst + (1 : Int)), IntKind.wrap IntKind.i64 (y.fst + (1 : Int)), ()) (z.fst, ()) ∧
                                                  μ (IntKind.wrap IntKind.i64 (y.fst + (1 : Int)), IntKind.wrap IntKind.i64 (y.fst + (1 : Int)), ()) (z.fst, ()) < μ y z)) ∧
                                      ((bif decide (y.fst = (↑(List.length x.fst) : Int)) then true else decide (List.getD x.fst (Int.toNat y.fst) (0 : Int) = (32 : Int))) = false →
                                        Value.slice none (0 : Nat) (0 : Nat) = Value.slice none (0 : Nat) (0 : Nat) ∧
                                          x.fst = x.fst ∧
                                            I (IntKind.wrap IntKind.i64 (y.fst + (1 : Int)), y.snd.fst, ()) (z.fst, ()) ∧
                                              μ (IntKind.wrap IntKind.i64 (y.fst + (1 : Int)), y.snd.fst, ()) (z.fst, ()) < μ y z)) ∧
                        (decide (y.fst ≤ (↑(List.length x.fst) : Int)) = false → z.fst = wordsD x.fst)
theorem e14 : t14 = Con.vc c14 GL (mkEnv ty [] [] [] [0, 2, 3, 4, 5, 9, 21, 24]) {} Tryd.f14.ntmps Tryd.f14.results.toList (bodyOf Tryd.f14) := by kernel_rfl
theorem k14 : t14 := by
  unfold t14
  rintro ⟨l, _⟩ hx hp
  have hp : l.length ≤ 100000000 := hp
  try dsimp +instances only [dft_int, dft_sl, dft_str]
  simp only [true_and, and_true, eq_self_iff_true, implies_true, reduceCtorEq, false_implies, true_implies, decide_eq_true_eq, decide_eq_false_iff_not, beq_self_eq_true, Bool.not_eq_true', ne_eq, Decidable.not_not, List.nil_append, List.length_singleton, List.length_cons, List.length_nil, Nat.zero_add, Nat.add_zero, Nat.mul_one, and_self, beq_iff_eq, Bool.not_true, Bool.not_false, Bool.not_eq_false', Bool.cond_false_right, Bool.and_eq_true, imp_self, Bool.not_eq_true, Bool.cond_true_left, Bool.or_eq_true]
  refine ⟨fun y z => 0 ≤ y.2.1 ∧ y.2.1 ≤ y.1 ∧ y.1 ≤ l.length + 1 ∧ (z.1.length : Int) ≤ y.1 ∧ ((y.1 ≤ l.length ∧ wordsD l = z.1 ++ wordsA ((l.take y.1.toNat).drop y.2.1.toNat) (l.drop y.1.toNat)) ∨ (y.1 = l.length + 1 ∧ wordsD l = z.1)), fun y _ => ((l.length : Int) + 1 - y.1).toNat, ⟨Int.le_refl 0, Int.le_refl 0, by omega, by simp, .inl ⟨by omega, rfl⟩⟩, ?_⟩
  rintro ⟨i, s, _⟩ ⟨z, _⟩ _ _ ⟨h0, h1, h2, h3, h4⟩
  simp only at h0 h1 h2 h3 h4 ⊢
  refine ⟨fun hle => ?_, fun hgt => ?_⟩
  · have hd : wordsD l = z ++ wordsA ((l.take i.toNat).drop s.toNat) (l.drop i.toNat) := by
      rcases h4 with h | h
      · exact h.2
      · omega
    have hw : IntKind.wrap .i64 (i + 1) = i + 1 := wrapK _ (by omega) (by omega)
    rw [hw]
    have e1 : (i + 1).toNat = i.toNat + 1 := by omega
    have hcl : ((l.take i.toNat).drop s.toNat).length = i.toNat - s.toNat := by simp; omega
    have nxt : ∀ z' : List (List Int), (z'.length : Int) ≤ i + 1 → (i = l.length ∨ l.getD i.toNat 0 = 32) → z' = z ++ (if (l.take i.toNat).drop s.toNat = [] then [] else [(l.take i.toNat).drop s.toNat]) →
        0 ≤ i + 1 ∧ i + 1 ≤ i + 1 ∧ i + 1 ≤ l.length + 1 ∧ (z'.length : Int) ≤ i + 1 ∧ ((i + 1 ≤ l.length ∧ wordsD l = z' ++ wordsA ((l.take (i + 1).toNat).drop (i + 1).toNat) (l.drop (i + 1).toNat)) ∨ (i + 1 = l.length + 1 ∧ wordsD l = z')) := by
      intro z' hz hc ez
      refine ⟨by omega, by omega, by omega, hz, ?_⟩
      by_cases hil : i = l.length
      · right
        refine ⟨by omega, ?_⟩
        rw [hd, ez, List.drop_of_length_le (by omega : l.length ≤ i.toNat), words_end]
      · left
        have h32 : l.getD i.toNat 0 = 32 := by omega
        refine ⟨by omega, ?_⟩
        rw [hd, ez, drop_cons l i.toNat (by omega), h32, words_sp, e1, List.drop_of_length_le (by simp; omega : (l.take (i.toNat + 1)).length ≤ i.toNat + 1)]
        simp
    refine ⟨fun h => ⟨h, h, by omega, by omega⟩, fun h => ⟨fun hs => ⟨⟨h0, h1, hle⟩, by decide, by omega, by omega, nxt _ (by simp; omega) h ?_, by omega⟩, fun hs => ⟨nxt _ (by omega) h ?_, by omega⟩⟩, fun h => ?_⟩
    · rw [if_neg (fun e => by have := congrArg List.length e; rw [hcl] at this; simp at this; omega)]
    · rw [if_pos (List.eq_nil_of_length_eq_zero (by rw [hcl]; omega))]
      simp
    · obtain ⟨g1, g2⟩ := Bool.or_eq_false_iff.1 h
      have g1 := of_decide_eq_false g1
      have g2 := of_decide_eq_false g2
      refine ⟨⟨by omega, by omega, by omega, by omega, .inl ⟨by omega, ?_⟩⟩, by omega⟩
      rw [hd, drop_cons l i.toNat (by omega), words_ch _ _ _ g2, e1, take_snoc l i.toNat (by omega), List.drop_append_of_le_length (by simp; omega)]
  · rcases h4 with h | h
    · omega
    · exact h.2.symm
theorem h14 : c14.ok Tryd.prog GL 14 := con_ok (H := {}) (mkEnv_ok (gl := GL) (l := []) (q := []) (d := []) _ tyOk (by kernel_rfl) trivial trivial trivial) (by kernel_rfl) (by kernel_rfl) (Eq.mp e14 k14)

end Go.Proofs.YtpkhpjohlfhldaaDoor
